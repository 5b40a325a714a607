/- A small language in which the program's functions are read by value: its values, its operations, its code, and how the program's code is brought into it. -/
import Derived.WalkKit
import Derived.WalkSpells
import Derived.WalkLawsBesides
import Derived.Lib.Hide
import Derived.Great.BuildSlice
import Derived.Conc.LoneCalls
import Derived.MapKept
import Derived.WideKeyRuns
set_option linter.unusedVariables false
set_option linter.unusedSimpArgs false
set_option maxRecDepth 100000
set_option maxHeartbeats 16000000
namespace Go.Proofs.YtgoelphibofcmaaGreat.V
open Go.RowKit
structure Id where
  site:Nat
  bQ:Nat
  deriving DecidableEq,Repr
inductive TS where
  |tI|tB|tS
  deriving Repr,DecidableEq
structure MK where
  ka:Bool
  ts:List TS
  deriving Repr,DecidableEq
inductive AV where
  |int (k:IntKind) (n:Int)
  |bool (b:Bool)
  |str (s:ByteArray)
  |bE|gN|je
  |sl (rows:List (List AV))
  |own (id:Id) (off len:Nat)
  |ptr (id:Id) (i off:Nat)
  |dq (cs:List AV)
  |agg (cs:List AV)
  |gE (vs:List AV)
  |fn (f:Nat) (di:List AV)
  |map (id:Id) (m:MK)
  |jo
  |ue (f:Nat) (first:List AV)
  |rF (id:Id)
  deriving Inhabited
def AV.undef:AV:=.gE []
def AV.cell:AV->Bool
  | .agg _| .gE _=>false
  |_=>true
def AV.cells:AV->List AV
  | .agg cs=>cs
  |v=>[v]
inductive K where
  |int (k:IntKind) (n:Int)
  |bool (b:Bool)
  |str (l:List UInt8)
  |bE|gN|je|jo
  deriving Repr,DecidableEq
def K.val:K->Value
  | .int k n=>.int k n
  | .bool b=>.bool b
  | .str l=>.string ⟨l.toArray⟩
  | .bE=>.slice none 0 0
  | .gN=>.pointer none
  | .je=>.nilFunc
  | .jo=>.map none
def K.av:K->AV
  | .int k n=>.int k n
  | .bool b=>.bool b
  | .str l=>.str ⟨l.toArray⟩
  | .bE=>.bE
  | .gN=>.gN
  | .je=>.je
  | .jo=>.jo
def G0:Value->Option K
  | .int k n=>some (.int k n)
  | .bool b=>some (.bool b)
  | .string s=>some (.str s.data.toList)
  | .slice none 0 0=>some .bE
  | .pointer none=>some .gN
  | .nilFunc=>some .je
  | .map none=>some .jo
  |_=>none
inductive O where
  |t (n:Nat)
  |k (c:K)
  |ka (cs:List K)
  |f (n:Nat)
  deriving Repr,DecidableEq
inductive MQ where
  |new (m:MK)
  |look (m:MK) (ok:Bool) (zero:K)
  |len (m:MK)
  deriving Repr,DecidableEq
inductive MW where
  |set (m:MK)
  |del (m:MK)
  deriving Repr,DecidableEq
inductive gH where
  |dv (x:O)
  |pick (c a b:O)
  |new (zero:List K)
  |box (x:O)
  |build (zero:List K) (parts:List (Nat×Nat×O))
  |lQ (sz len:Nat) (parts:List O)
  |load (agg:Bool) (n:Nat) (a:O)
  |store (n:Nat) (a x:O)
  |AL (x:O)
  |bin (op:BinOp) (k:IntKind) (x y:O)
  |sh (left:Bool) (x y:O)
  |Lv (op:BinOp) (x y:O)
  |N9 (neg:Bool) (t:TS) (x y:O)
  |SM (neg:Bool) (ts:List TS) (x y:O)
  |Q3 (neg Ma:Bool) (x:O)
  |SN (neg:Bool) (x:O)
  |not (x:O)
  |neg (x:O)
  |conv (k:IntKind) (x:O)
  |Fq (x:O)
  |slice (sz:Nat) (x:O) (lo hi:Option O)
  |An (x:O) (lo hi:Option O)
  |gh (off:Nat) (x:O)
  |field (agg:Bool) (off n:Nat) (x:O)
  |dS (sz:Nat) (x i:O)
  |L3 (len sz:Nat) (x i:O)
  |L5 (x i:O)
  |eR (agg:Bool) (len n:Nat) (x i:O)
  |extract (i:Nat) (x:O)
  |len (x:O)
  |Mf (x:O)
  |append (sz:Nat) (x y:O)
  |copy (sz:Nat) (x y:O)
  |clear (zero:List K) (x:O)
  |Mm (f:Nat) (di:List O)
  |Mn (f:Nat) (first:List O)
  |j6 (zero:List K) (len cap:O)
  |call (f:Nat) (args:List O)
  |tQ (x:O) (args:List O)
  |mq (q:MQ) (xs:List O)
  |mw (q:MW) (xs:List O)
  |JV (x:O)
  |JL (x:O)
  |snd (x y:O)
  |Pw (x:O)
  |bad
  deriving Repr,DecidableEq
structure br where
  dst:Option Nat
  op:gH
  guard:Option (Nat×Bool)
  site:Nat
  hid:List Nat
  deriving Repr,DecidableEq
def q (d:Nat) (op:gH) (s:Nat):br:=⟨some d,op,none,s,[]⟩
inductive VC where
  |skip
  |eO (draw:Bool) (ops:List br)
  |seq (a b:VC)
  |cond (c:O) (x y:VC)
  |block (id:Nat) (c:VC)
  |loop (c:VC)
  |exit (id:Nat)
  |ret
  |one (o:br) (c:VC)
  |both (a b:VC)
  |loc (t s:Nat) (y:O) (c:VC)
  |N3 (ops:List br)
  deriving Repr,DecidableEq
inductive nO where
  |tmp (t:Nat)
  |cell (agg:Bool) (n:Nat) (t:Nat)
  deriving Repr,DecidableEq
structure AK where
  ntmps:Nat
  yT:Nat
  body:VC
  res:List nO
  deriving Repr,DecidableEq
def fQ (P:Program) (f:Nat):Bool:=
  match P.funcs[f]? with
  |some fn=>fn.body.isSome&& !(fn.name== "runtime.NumGoroutine")
  |none=>false
def cO (P:Program):Operand->Option O
  | .tmp t=>some (.t t)
  | .const (.agg cs)=>(cs.toList.mapM G0).map O.ka
  | .const v=>(G0 v).map O.k
  | .global _=>none
  | .func f=>if fQ P f then some (.f f)else none
def jM (P:Program) (t:TypeId):Option (List K):=
  match P.info? t with
  |some i=>match i.zero with
    |some v=>if v.cells.size=i.size then v.cells.toList.mapM G0 else none
    |none=>none
  |none=>none
def eA (P:Program) (t:TypeId):Option Nat:=(P.info? t).map (·.size)
def nS (P:Program) (t:TypeId):Option Bool:=
  match P.underlying t with
  |some (.struct _)|some (.array _ _)=>some true
  |some _=>some false
  |none=>none
inductive TP where
  |sc (t:TS)|ag (ts:List TS)
  deriving Repr,DecidableEq
def fB (P:Program) (t:TypeId):Option TS:=
  match P.underlying t with
  |some .bool=>some .tB
  |some (.int _)=>some .tI
  |some .string=>some .tS
  |_=>none
def DG (P:Program) (inner:List Field->Option (List TS)):Nat->List Field->Option (List TS)
  |_,[]=>some []
  |off,f::r=>
    if f.offset=off/\f.name≠ "_" then
      match fB P f.type with
      |some t=>if nS P f.type=some false then(DG P inner (off+1) r).map (t::·)else none
      |none=>match P.underlying f.type with
        |some (.struct fs)=>if !P.stoodInHeld f.type then match inner fs.toList with
          |some ts=>if eA P f.type=some ts.length/\ts≠[]then(DG P inner (off+ts.length) r).map (ts++·)else none
          |none=>none else none
        |_=>none
    else none
def eP (P:Program):Nat->Nat->List Field->Option (List TS)
  |0,_,[]=>some []
  |0,_,_::_=>none
  |d+1,off,fs=>DG P (eP P d 0) off fs
def Ua (P:Program) (t:TypeId):Option TP:=
  match fB P t with
  |some s=>some (.sc s)
  |none=>match P.underlying t with
    |some (.struct fs)=>if !P.stoodInHeld t&& !P.eqGuardType P.depth t then(eP P 4 0 fs.toList).map TP.ag else none
    |_=>none
def sR (P:Program) (fs:Array Field):List (Nat×O)->Option (List (Nat×Nat×O))
  |[]=>some []
  |(i,x)::r=>match fs[i]? with
    |some f=>match eA P f.type with
      |some n=>(sR P fs r).map ((f.offset,n,x)::·)
      |none=>none
    |none=>none
def sV (P:Program) (ps:Array (Nat×Operand)):Option (List (Nat×O)):=ps.toList.mapM fun(i,x)=>(cO P x).map (i,·)
def rD (P:Program):Option Operand->Option (Option O)
  |none=>some none
  |some x=>(cO P x).map some
def sS (P:Program) (neg:Bool) (t:TypeId) (x y:Operand):Option gH:=
  match y with
  | .const (.slice none 0 0)=>match P.underlying t with
    |some (.slice _)=>(cO P x).map (gH.Q3 neg false)
    |_=>none
  | .const .nilFunc=>match P.underlying t with
    |some (.func ..)=>(cO P x).map (gH.Q3 neg true)
    |_=>none
  | .const (.pointer none)=>match P.underlying t with
    |some (.pointer _)=>(cO P x).map (gH.SN neg)
    |_=>none
  |_=>match Ua P t with
    |some (.sc s)=>do pure (.N9 neg s (<-cO P x) (<-cO P y))
    |some (.ag ts)=>do pure (.SM neg ts (<-cO P x) (<-cO P y))
    |_=>none
def vV (P:Program) (op:BinOp) (t:TypeId) (x y:Operand):Option gH:=
  match op with
  | .eql=>sS P false t x y
  | .neq=>sS P true t x y
  | .shl=>do pure (.sh true (<-cO P x) (<-cO P y))
  | .shr=>do pure (.sh false (<-cO P x) (<-cO P y))
  |op=>match P.underlying t with
    |some (.int k)=>do pure (.bin op k (<-cO P x) (<-cO P y))
    |some .string=>do pure (.Lv op (<-cO P x) (<-cO P y))
    |_=>none
def sU (P:Program) (t:TypeId):Option (MK×K):=
  match P.underlying t with
  |some (.map k e)=>match nS P e,(P.info? e).bind (·.zero),fB P k,P.underlying k with
    |some false,some zv,some s,_=>(G0 zv).map fun z=>(⟨false,[s]⟩,z)
    |some false,some zv,none,some (.struct fs)=>match eP P 4 0 fs.toList,G0 zv with
      |some ts,some z=>if !P.stoodInHeld k/\fs.toList.all (fun f=>(fB P f.type).isSome)then some (⟨true,ts⟩,z)else none
      |_,_=>none
    |_,_,_,_=>none
  |_=>none
def nC (P:Program) (c:Call):Option gH:=
  match c.callee with
  | .builtin .len=>match c.args.toList,c.argTypes.toList with
    |[x],[t]=>match P.underlying t with
      |some (.slice _)=>(cO P x).map gH.len
      |some .string=>(cO P x).map gH.Mf
      |some (.map _ _)=>match sU P t,cO P x with
        |some (m,_),some x=>some (.mq (.len m) [x])
        |_,_=>none
      |some (.chan _ _)=>(cO P x).map gH.JL
      |_=>none
    |_,_=>none
  | .builtin .append=>match c.args.toList,c.argTypes.toList with
    |[x,y],[t,u]=>match P.underlying t with
      |some (.slice e)=>match eA P e,jM P e,P.info? e with
        |some (sz+1),some _,some i=>if i.bytes<=32768/\t=u then do pure (.append (sz+1) (<-cO P x) (<-cO P y))else none
        |_,_,_=>none
      |_=>none
    |_,_=>none
  | .builtin .clear=>match c.args.toList,c.argTypes.toList with
    |[x],[t]=>match P.underlying t with
      |some (.slice e)=>match eA P e,jM P e with
        |some (_+1),some z=>(cO P x).map (gH.clear z)
        |_,_=>none
      |_=>none
    |_,_=>none
  | .value (.func f)=>if fQ P f then(c.args.toList.mapM (cO P)).map (gH.call f)else none
  | .value (.tmp t)=>(c.args.toList.mapM (cO P)).map (gH.tQ (.t t))
  | .builtin .delete=>match c.args.toList,c.argTypes.toList with
    |[x,k],[t,_]=>match sU P t,cO P x,cO P k with
      |some (m,_),some x,some k=>some (.mw (.del m) [x,k])
      |_,_,_=>none
    |_,_=>none
  | .builtin .copy=>match c.args.toList,c.argTypes.toList with
    |[x,y],[t,_]=>match P.underlying t with
      |some (.slice e)=>match eA P e with
        |some (sz+1)=>do pure (.copy (sz+1) (<-cO P x) (<-cO P y))
        |_=>none
      |_=>none
    |_,_=>none
  |_=>none
def qY (P:Program) (o:Op):Option gH:=
  match o with
  | .move x| .assign x=>(cO P x).map gH.dv
  | .pick c a b=>do pure (.pick (<-cO P c) (<-cO P a) (<-cO P b))
  | .alloc e=>(jM P e).map gH.new
  | .box _ x=>(cO P x).map gH.box
  | .load t a=>do pure (.load (<-nS P t) (<-eA P t) (<-cO P a))
  | .store t a x=>do pure (.store (<-eA P t) (<-cO P a) (<-cO P x))
  | .nilCheck x=>(cO P x).map gH.AL
  | .binOp op t x y _=>vV P op t x y
  | .unOp .not _ x=>(cO P x).map gH.not
  | .unOp .neg _ x=>(cO P x).map gH.neg
  | .convert s d x=>match P.underlying s,P.underlying d with
    |some (.int _),some (.int k)=>(cO P x).map (gH.conv k)
    |some .string,some .string=>(cO P x).map gH.Fq
    |_,_=>none
  | .slice t x lo hi none=>match P.underlying t with
    |some (.slice e)=>do
      pure (.slice (<-eA P e) (<-cO P x) (<-rD P lo) (<-rD P hi))
    |some .string=>do pure (.An (<-cO P x) (<-rD P lo) (<-rD P hi))
    |_=>none
  | .fieldAddr s x i=>match P.underlying s with
    |some (.struct fs)=>match fs[i]? with
      |some f=>match eA P f.type with
        |some (_+1)=>(cO P x).map (gH.gh f.offset)
        |_=>none
      |none=>none
    |_=>none
  | .field s x i=>match P.underlying s with
    |some (.struct fs)=>match fs[i]? with
      |some f=>do pure (.field (<-nS P f.type) f.offset (<-eA P f.type) (<-cO P x))
      |none=>none
    |_=>none
  | .indexAddr t x i=>match P.underlying t with
    |some (.slice e)=>match eA P e with
      |some (m+1)=>do pure (.dS (m+1) (<-cO P x) (<-cO P i))
      |_=>none
    |some (.array len e)=>match eA P e with
      |some (m+1)=>do pure (.L3 len (m+1) (<-cO P x) (<-cO P i))
      |_=>none
    |_=>none
  | .index t x i=>match P.underlying t with
    |some .string=>do pure (.L5 (<-cO P x) (<-cO P i))
    |some (.array len e)=>do pure (.eR (<-nS P e) len (<-eA P e) (<-cO P x) (<-cO P i))
    |_=>none
  | .extract x i=>(cO P x).map (gH.extract i)
  | .build t ps=>match P.underlying t with
    |some (.struct fs)=>
      match jM P t,sV P ps with
      |some z,some l=>
        if fs.all (fun f=>(P.info? f.type).isSome)then(sR P fs l).map (gH.build z)else none
      |_,_=>none
    |some (.array _ e)=>
      match jM P t,sV P ps,eA P e with
      |some z,some l,some n=>some (.build z (l.map fun(i,x)=>(i*n,n,x)))
      |_,_,_=>none
    |_=>none
  | .buildSlice t len ps=>match P.underlying t with
    |some (.slice e)=>match eA P e,jM P e,sV P ps with
      |some (sz+1),some _,some l=>
        if len*(sz+1)<=4096/\l.map (·.1)=List.range len then some (.lQ (sz+1) len (l.map (·.2)))else none
      |_,_,_=>none
    |_=>none
  | .makeFunc (.func f) first di=>
    if first= #[]/\fQ P f then(di.toList.mapM (cO P)).map (gH.Mm f)else if di= #[]/\fQ P f then(first.toList.mapM (cO P)).map (gH.Mn f)else none
  | .makeSlice t l c=>match P.underlying t with
    |some (.slice e)=>match eA P e,jM P e,P.info? e with
      |some (_+1),some z,some i=>if i.bytes<=32768 then do pure (.j6 z (<-cO P l) (<-cO P c))else none
      |_,_,_=>none
    |_=>none
  | .call c=>nC P c
  | .makeChan t n=>match P.underlying t with
    |some (.chan _ e)=>match P.info? e with
      |some i=>if i.bytes<=32768 then(cO P n).map gH.JV else none
      |none=>none
    |_=>none
  | .send x y=>do pure (.snd (<-cO P x) (<-cO P y))
  | .recv t x false=>match P.underlying t with
    |some (.chan _ e)=>match (P.info? e).bind (·.zero)with
      |some _=>(cO P x).map gH.Pw
      |none=>none
    |_=>none
  | .makeMap t none=>match sU P t with
    |some (m,_)=>some (.mq (.new m) [])
    |none=>none
  | .lookup t x k ok=>match sU P t,cO P x,cO P k with
    |some (m,z),some x,some k=>some (.mq (.look m ok z) [x,k])
    |_,_,_=>none
  | .mapUpdate t x k v| .insert t x k v=>match sU P t,cO P x,cO P k,cO P v with
    |some (m,_),some x,some k,some v=>some (.mw (.set m) [x,k,v])
    |_,_,_,_=>none
  | .makeInterface _ _=>some .bad
  | .panic _=>some .bad
  |_=>none
inductive TN where
  |pure|look|make|write
  deriving DecidableEq,Repr
def gH.cls:gH->TN
  | .new _| .box _| .lQ .. | .j6 .. | .mq (.new _) _| .JV _=>.make
  | .load .. | .dS .. | .slice .. | .call .. | .tQ .. | .mq .. | .JL _=>.look
  | .store .. | .append .. | .copy .. | .clear .. | .mw .. | .snd .. | .Pw _=>.write
  |_=>.pure
def clash:TN->TN->Bool
  | .pure,_|_,.pure=>false
  | .write,_|_,.write=>true
  |_,_=>false
def jI (ops:Array Oper):Array Nat:=Region.before ops
def qR:gH->Bool:=fun o=>o.cls==.make||o.cls==.write
def gH.lT:gH->Bool
  | .call .. | .tQ .. =>true
  |_=>false
def Dq (ops:Array Oper) (o:Oper):Option (Option (Nat×Bool)):=
  match o.guard with
  |none=>some none
  |some (i,b)=>match (ops[i]?).bind (·.dst)with
    |some t=>some (some (t,b))
    |none=>none
def kT (P:Program) (ops:Array Oper) (nt site0:Nat) (draw mk:Bool) (bs:Array Nat) (hidden:List (Nat×Bool)) (j:Nat) (o:Oper):Option br:=do
  let v <-qY P o.op
  let g <-Dq ops o
  if (o.dst.all fun d=>decide (d<nt))then
    pure {dst:=o.dst,op:=v,guard:=g,site:=site0+j,hid:=if draw then(hidden.filter fun(i,m)=>m&& !(bs.getD j 0).testBit i&&(i !=j||mk&&v.lT)).map fun(i,_)=>site0+i else[]}
  else none
def allM {α:Type} (f:Nat->Oper->Option α):List Oper->Nat->Option (List α)
  |[],_=>some []
  |o::r,j=>do pure ((<-f j o)::(<-allM f r (j+1)))
def ib:O->List Nat
  | .t n=>[n]
  |_=>[]
def wY:Option O->List Nat
  |some x=>ib x
  |none=>[]
def gH.gO:gH->List Nat
  | .clear _ x| .dv x| .box x| .load _ _ x| .AL x| .Q3 _ _ x| .SN _ x| .not x| .neg x| .conv _ x| .Fq x| .gh _ x| .field _ _ _ x| .extract _ x| .len x| .Mf x| .JV x| .JL x| .Pw x=>ib x
  | .pick c a b=>ib c++ib a++ib b
  | .new _| .bad=>[]
  | .build _ ps=>ps.flatMap fun(_,_,x)=>ib x
  | .lQ _ _ ps=>ps.flatMap ib
  | .store _ a x| .snd a x=>ib a++ib x
  | .bin _ _ x y| .sh _ x y| .Lv _ x y| .N9 _ _ x y| .SM _ _ x y| .dS _ x y| .L3 _ _ x y| .L5 x y| .eR _ _ _ x y| .append _ x y| .copy _ x y| .j6 _ x y=>ib x++ib y
  | .slice _ x lo hi| .An x lo hi=>ib x++wY lo++wY hi
  | .Mm _ l| .Mn _ l| .call _ l| .mq _ l| .mw _ l=>l.flatMap ib
  | .tQ x l=>ib x++l.flatMap ib
def br.gO (v:br):List Nat:=v.op.gO++(match v.guard with|some (t,_)=>[t]|none=>[])
def tG (x y:br):Bool:=
  (match x.dst with
   |some d=> !y.gO.contains d&&y.dst !=some d
   |none=>true)&&
  (match y.dst with
   |some d=> !x.gO.contains d
   |none=>true)
def br.makes (v:br):Bool:=qR v.op||v.op.lT&&v.hid.contains v.site
def Fz (x y:br):Bool:=
  tG x y&& !clash x.op.cls y.op.cls&&(!x.makes||y.hid.contains x.site)&&(!y.makes||x.hid.contains y.site)&&x.site !=y.site
def Ft (ops:Array Oper):Bool:=ops.toList.zipIdx.all fun(o,j)=>o.after.all fun e=> !Region.binds .any e||decide (e.on<j)
def oG (ops:Array Oper) (vl:List br) (bs:Array Nat):Bool:=
  Ft ops&&vl.zipIdx.all fun(y,j)=>vl.zipIdx.all fun(x,i)=> !(decide (i<j))||(bs.getD j 0).testBit i||Fz x y
def rE (P:Program) (nt site0:Nat) (ops:Array Oper) (draw mk:Bool):Option (List br):=
  let bs:=if draw then jI ops else #[]
  let hidden:=if draw then ops.toList.zipIdx.map fun(o,i)=>(i,((qY P o.op).map fun v=>qR v||mk&&v.lT).getD false)else[]
  match allM (kT P ops nt site0 draw mk bs hidden) ops.toList 0 with
  |some vl=>if !draw||oG ops vl bs then some vl else none
  |none=>none
def k9 (v:br):Bool:= !v.op.lT&&v.op.cls !=.write
def yy (x y:br):Bool:=tG x y&&x.op.cls==.pure||Fz x y&&k9 x&&k9 y
def qx (ops:Array Oper) (vl:List br) (bs:Array Nat) (listed:Array Bool) (i:Nat):Bool:=
  match vl[i]? with
  |some x=>(List.range ops.size).all fun j=>listed.getD j false||j==i||(bs.getD j 0).testBit i||(match vl[j]? with|some y=>yy x y|none=>false)
  |none=>false
def Nz (vl:List br) (x:br):Option (Nat×Nat×O):=
  match x.op,x.guard with
  | .append _ (.t t) y,none=>match vl.find? fun v=>v.dst==some t&&v.op.cls==.make with
    |some v=>some (t,v.site,y)
    |none=>none
  |_,_=>none
def Fy (s:Nat) (x y:br):Bool:=tG x y&&k9 y&&y.hid.contains s&&y.hid.contains x.site&&y.site !=s&&y.site !=x.site
def oI (ops:Array Oper) (vl:List br) (bs:Array Nat) (listed:Array Bool) (i s:Nat):Bool:=
  match vl[i]? with
  |some x=>(List.range ops.size).all fun j=>listed.getD j false||j==i||(bs.getD j 0).testBit i||(match vl[j]? with|some y=>Fy s x y|none=>false)
  |none=>false
def Pg (ops:Array Oper) (vl:List br) (bs:Array Nat) (listed:Array Bool) (i:Nat):Option (Nat×Nat×Nat×O×br):=
  match vl[i]? with
  |some x=>match Nz vl x with
    |some (t,s,y)=>if oI ops vl bs listed i s then some (i,t,s,y,x)else none
    |none=>none
  |none=>none
def Bb:List VC->Option VC
  |[]=>none
  |[c]=>some c
  |c::r=>(Bb r).map (VC.both c)
def xq (ops:Array Oper) (vl:List br) (bs:Array Nat):Nat->Array Bool->Option VC
  |0,listed=>
    match Region.ready .any ops listed with
    |[]=>some (.eO false [])
    |_::_=>none
  |n+1,listed=>
    match Region.ready .any ops listed with
    |[]=>some (.eO false [])
    |r::rs=>let rdy:=r::rs
      match rdy.find? (qx ops vl bs listed)with
      |some i=>match vl[i]? with
        |some vo=>(xq ops vl bs n (listed.setIfInBounds i true)).map (VC.one vo)
        |none=>none
      |none=>match rdy.findSome? (Pg ops vl bs listed)with
        |some (i,t,s,y,vo)=>(xq ops vl bs n (listed.setIfInBounds i true)).map fun c=>VC.loc t s y (.one vo c)
        |none=>match rdy.mapM fun i=>(vl[i]?).bind fun vo=>(xq ops vl bs n (listed.setIfInBounds i true)).map (VC.one vo)with
          |some l=>Bb l
          |none=>none
def Nx:Op->Bool
  | .send .. | .recv .. =>true
  |_=>false
def QW (P:Program) (nt site0:Nat) (ops:Array Oper) (draw:Bool) (mode:Nat):Option VC:=
  if draw&&mode==2 then
    match allM (kT P ops nt site0 true false (jI ops) (ops.toList.zipIdx.map fun(o,i)=>(i,((qY P o.op).map qR).getD false))) ops.toList 0 with
    |some vl=>xq ops vl (jI ops) ops.size (Array.replicate ops.size false)
    |none=>none
  else if !draw&&ops.any (fun o=>Nx o.op)then(rE P nt site0 ops false false).map VC.N3
  else(rE P nt site0 ops draw (mode==1)).map (VC.eO draw)
def wS (md:List (Nat×Nat)) (id:Nat):Nat:=
  match md with
  |[]=>0
  |(i,m)::r=>if i=id then m else wS r id
def ju (P:Program) (md:List (Nat×Nat)) (nt fid:Nat):Code->Option VC
  | .skip=>some .skip
  | .region id ops draw=>QW P nt ((fid*1000+id)*1000) ops draw (wS md id)
  | .seq a b=>do pure (.seq (<-ju P md nt fid a) (<-ju P md nt fid b))
  | .cond c x y=>do pure (.cond (<-cO P c) (<-ju P md nt fid x) (<-ju P md nt fid y))
  | .block id c=>(ju P md nt fid c).map (VC.block id)
  | .loop c=>(ju P md nt fid c).map VC.loop
  | .exit id=>some (.exit id)
  | .ret=>some .ret
  |_=>none
def Dr (P:Program) (r:ResultVar):Option nO:=
  match r with
  | .tmp t=>some (.tmp t)
  | .cell a t=>do pure (.cell (<-nS P t) (<-eA P t) a)
def xL (P:Program) (f:Nat) (md:List (Nat×Nat)):Option AK:=
  match P.funcs[f]? with
  |some fn=>match fn.body with
    |some c=>do
      let b <-ju P md fn.ntmps f c
      let r <-fn.results.toList.mapM (Dr P)
      if fn.params.size+fn.nfree<=fn.ntmps then pure {ntmps:=fn.ntmps,yT:=fn.params.size+fn.nfree,body:=b,res:=r}else none
    |none=>none
  |none=>none
def lR (P:Program) (f:Nat):Option AK:=xL P f []
end Go.Proofs.YtgoelphibofcmaaGreat.V

namespace Go.Proofs.YtgoelphibofcmaaGreat.V
open Go.RowKit
structure Row where
 w:Bool
 sz:Nat
 rows:List (List AV)
abbrev Rows:=Id->Option Row
structure ar where
 get:Rows
 next:Nat
abbrev Env:=Nat->AV
def upd (env:Env):Option Nat->AV->Env
 |some d,v=>fun t=>if t=d then v else env t
 |none,_=>env
inductive Ex where
 |normal
 |exit (id:Nat)
 |ret
 deriving DecidableEq
def dj (env:Env):O->AV
 | .t n=>env n
 | .k c=>c.av
 | .ka cs=>.agg (cs.map K.av)
 | .f n=>.fn n []
def bL (g:Rows) (id:Id) (r:Row):Rows:=fun i=>if i=id then some r else g i
def cD (g:Rows) (id:Id):Rows:=fun i=>if i=id then none else g i
def fZ:List Nat->Nat->Rows->Rows
 |[],_,g=>g
 |h::t,n,g=>fun id=>if (h::t).contains id.site=true/\id.bQ=n then none else g id
def ro (g:Rows):Rows:=fun id=>(g id).map fun r=>{r with w:=false}
def part (agg:Bool) (n:Nat) (cs:List AV):Option AV:=
 if agg then(if n<=cs.length then some (.agg (cs.take n))else none)else cs.head?
def rowAt (g:Rows) (id:Id) (i:Nat):Option (List AV):=(g id).bind (·.rows[i]?)
def ld (g:Rows) (agg:Bool) (n:Nat):AV->Option AV
 | .ptr id i off=>(rowAt g id i).bind fun cs=>part agg n (cs.drop off)
 | .dq cs=>part agg n cs
 |_=>none
def dG:BinOp->IntKind->Int->Int->Option AV
 | .add,k,a,b=>some (.int k (k.wrap (a+b)))
 | .sub,k,a,b=>some (.int k (k.wrap (a-b)))
 | .mul,k,a,b=>some (.int k (k.wrap (a*b)))
 | .quo,k,a,b=>if b=0 then none else some (.int k (k.wrap (a.tdiv b)))
 | .rem,k,a,b=>if b=0 then none else some (.int k (a.tmod b))
 | .lss,_,a,b=>some (.bool (decide (a<b)))
 | .leq,_,a,b=>some (.bool (decide (a<=b)))
 | .gtr,_,a,b=>some (.bool (decide (b<a)))
 | .geq,_,a,b=>some (.bool (decide (b<=a)))
 | .and,k,a,b=>some (.int k (k.wrap (BitVec.ofInt k.bits a&&& BitVec.ofInt k.bits b).toNat))
 | .or,k,a,b=>some (.int k (k.wrap (BitVec.ofInt k.bits a|||BitVec.ofInt k.bits b).toNat))
 | .xor,k,a,b=>some (.int k (k.wrap (BitVec.ofInt k.bits a ^^^ BitVec.ofInt k.bits b).toNat))
 |_,_,_,_=>none
def ef (op:BinOp):AV->AV->Option AV
 | .int k a,.int k' b=>if k=k' then dG op k a b else none
 |_,_=>none
def ik (left:Bool):AV->AV->Option AV
 | .int k a,.int _ b=>if b<0 then none else some (.int k (if left then k.wrap (a*2 ^ min b.toNat k.bits)else a.fdiv (2 ^ min b.toNat k.bits)))
 |_,_=>none
def ew:BinOp->ByteArray->ByteArray->Option AV
 | .add,a,b=>if a.size+b.size<=9223372036854775807 then some (.str (a++b))else none
 | .lss,a,b=>some (.bool (Op.bytesLess a.toList b.toList))
 | .leq,a,b=>some (.bool (Op.bytesLess a.toList b.toList||(a.toList==b.toList)))
 | .gtr,a,b=>some (.bool !(Op.bytesLess a.toList b.toList||(a.toList==b.toList)))
 | .geq,a,b=>some (.bool !(Op.bytesLess a.toList b.toList))
 |_,_,_=>none
def de (op:BinOp):AV->AV->Option AV
 | .str a,.str b=>ew op a b
 |_,_=>none
def fW:TS->AV->AV->Option Bool
 | .tI,.int k a,.int k' b=>if k=k' then some (decide (a=b))else none
 | .tB,.bool a,.bool b=>some (a==b)
 | .tS,.str a,.str b=>some (decide (a=b))
 |_,_,_=>none
def fe:List TS->List AV->List AV->Option Bool
 |[],[],[]=>some true
 |t::ts,a::r,b::s=>match fW t a b,fe ts r s with
  |some x,some y=>some (x&&y)
  |_,_=>none
 |_,_,_=>none
def dw (neg b:Bool):Bool:=if neg then !b else b
def dc:AV->Option Bool
 | .bE=>some true
 | .own _ _ _=>some false
 | .sl (_::_)=>some false
 |_=>none
def db:AV->Option Bool
 | .je=>some true
 | .fn _ _=>some false
 |_=>none
def KQ:AV->Option Bool
 | .gN=>some true
 | .ptr .. | .dq _=>some false
 |_=>none
def ek (Ma:Bool) (x:AV):Option Bool:=if Ma then db x else dc x
def dU (len:Nat):Option AV->Option Nat
 |none=>some len
 |some (.int _ n)=>if 0<=n/\n<=len then some n.toNat else none
 |_=>none
def dV (h:Nat):Option AV->Option Nat
 |none=>some 0
 |some (.int _ n)=>if 0<=n/\n<=h then some n.toNat else none
 |_=>none
def cj (g:Rows) (sz:Nat) (x:AV) (lo hi:Option AV):Option AV:=
 match x with
 | .bE=>(dU 0 hi).bind fun h=>(dV h lo).map fun _=>.bE
 | .sl rows=>(dU rows.length hi).bind fun h=>(dV h lo).bind fun l=>if ∀cs∈rows,cs.length=sz then some (.sl ((rows.drop l).take (h-l)))else none
 | .own id off len=>(g id).bind fun r=>(dU len hi).bind fun h=>(dV h lo).bind fun l=>if r.sz=sz then some (.own id (off+l) (h-l))else none
 |_=>none
def bl (x:AV) (lo hi:Option AV):Option AV:=
 match x with
 | .str s=>(dU s.size hi).bind fun h=>(dV h lo).map fun l=>.str (s.extract l h)
 |_=>none
def Fe (off:Nat):AV->Option AV
 | .ptr id i o=>some (.ptr id i (o+off))
 | .dq cs=>some (.dq (cs.drop off))
 |_=>none
def b4 (g:Rows) (sz:Nat):AV->AV->Option AV
 | .sl rows,.int _ n=>if 0<=n then(rows[n.toNat]?).bind fun cs=>if cs.length=sz then some (.dq cs)else none else none
 | .own id off len,.int _ n=>if 0<=n/\n<len then(g id).bind fun r=>if r.sz=sz then some (.ptr id (off+n.toNat) 0)else none else none
 |_,_=>none
def cU (len sz:Nat):AV->AV->Option AV
 | .ptr id r off,.int _ n=>if 0<=n/\n<len then some (.ptr id r (off+n.toNat*sz))else none
 | .dq cs,.int _ n=>if 0<=n/\n<len then some (.dq (cs.drop (n.toNat*sz)))else none
 |_,_=>none
def cW:AV->AV->Option AV
 | .str s,.int _ n=>if 0<=n then(s[n.toNat]?).map fun b=>.int .u8 b.toNat else none
 |_,_=>none
def cV (agg:Bool) (len n:Nat):AV->AV->Option AV
 | .agg cs,.int _ i=>if 0<=i/\i<len then part agg n (cs.drop (i.toNat*n))else none
 |_,_=>none
def ei:AV->Option Nat
 | .bE=>some 0
 | .sl rows=>some rows.length
 | .own _ _ n=>some n
 |_=>none
def eo:AV->Option AV
 | .bool b=>some (.bool !b)
 |_=>none
def ej:AV->Option AV
 | .int k n=>some (.int k (k.wrap (0-n)))
 |_=>none
def cR (k:IntKind):AV->Option AV
 | .int _ n=>some (.int k (k.wrap n))
 |_=>none
def cm:AV->Option AV
 | .str s=>some (.str s)
 |_=>none
def dd:AV->AV->AV->Option AV
 | .bool c,a,b=>some (if c then a else b)
 |_,_,_=>none
def eh:AV->Option AV
 | .ptr id i o=>some (.ptr id i o)
 | .dq cs=>some (.dq cs)
 |_=>none
def bW (agg:Bool) (off n:Nat):AV->Option AV
 | .agg cs=>if off+n<=cs.length then part agg n (cs.drop off)else none
 |_=>none
def aV (i:Nat):AV->Option AV
 | .gE vs=>vs[i]?
 |_=>none
def cZ:AV->Option AV
 | .str s=>some (.int .i64 s.size)
 |_=>none
def rowOf (sz:Nat) (v:AV):Option (List AV):=if v.cells.length=sz/\v.cells.all AV.cell then some v.cells else none
def cP (v:AV):Option (List AV):=if v.cells.all AV.cell then some v.cells else none
def rowsOf (sz:Nat):List AV->Option (List (List AV))
 |[]=>some []
 |v::r=>(rowOf sz v).bind fun c=>(rowsOf sz r).map fun cs=>c::cs
def cI:List AV->List (Nat×Nat×AV)->Option (List AV)
 |cs,[]=>some cs
 |cs,(off,n,v)::r=>if v.cells.length=n/\off+n<=cs.length/\v.cells.all AV.cell then cI (cs.take off++v.cells++cs.drop (off+n)) r else none
def dI:Nat:=16777216
def ij (zero:List K):AV->AV->Option (Nat×Row)
 | .int _ l,.int _ c=>if 0<=l/\l<=c/\c<=dI then some (l.toNat,⟨true,zero.length,List.replicate l.toNat (zero.map K.av)⟩)else none
 |_,_=>none
def r4:Nat:=1000000000
def MK.ks (m:MK):Nat:=m.ts.length
def MK.pG (m:MK):Nat:=r4+m.ks
def AV.isAgg:AV->Bool
 | .agg _=>true
 |_=>false
def gu (m:MK) (key:List AV):List (List AV)->Nat->Option (Option Nat)
 |[],_=>some none
 |r::l,i=>match fe m.ts key (r.take m.ks)with
  |some true=>some (some i)
  |some false=>gu m key l (i+1)
  |none=>none
def dW (g:Rows) (m:MK):AV->Option (Id×Row)
 | .map id m'=>if m'=m then(g id).map fun r=>(id,r)else none
 |_=>none
def fS (m:MK) (k:AV) (rows:List (List AV)):Option (Option Nat):=if k.isAgg=m.ka/\k.cells.length=m.ks/\k.cells.all AV.cell then gu m k.cells rows 0 else none
def eb (m:MK) (z:K) (rows:List (List AV)):Option Nat->Option AV
 |some i=>(rows[i]?).bind fun cs=>cs[m.ks]?
 |none=>some z.av
def bH (q:MQ) (vs:List AV) (g:Rows) (id:Id):Option (AV×Option Row):=
 match q,vs with
 | .new m,[]=>some (.map id m,some ⟨true,m.pG,[]⟩)
 | .look m ok z,[x,k]=>(dW g m x).bind fun p=>(fS m k p.2.rows).bind fun fi=>(eb m z p.2.rows fi).map fun v=>(if ok then .gE [v,.bool fi.isSome]else v,none)
 | .len m,[x]=>(dW g m x).map fun p=>(.int .i64 p.2.rows.length,none)
 |_,_=>none
def qw:Nat:=2000000000
def da:AV->Option Nat
 | .int _ n=>if 0<=n/\n<=1048576 then some n.toNat else none
 |_=>none
def cY (g:Rows):AV->Option AV
 | .rF id=>(g id).map fun r=>.int .i64 r.rows.length
 |_=>none
def er (g:Rows):AV->AV->Option Rows
 | .rF id,v=>(g id).bind fun r=>if r.w/\qw+r.rows.length<r.sz/\v.cell then some (bL g id {r with rows:=r.rows++[[v]]})else none
 |_,_=>none
def ep (g:Rows):AV->Option (AV×Rows)
 | .rF id=>(g id).bind fun r=>match r.rows with
  |[v]::rest=>if r.w then some (v,bL g id {r with rows:=rest})else none
  |_=>none
 |_=>none
def dQ (rows:List (List AV)) (e:List AV):Option Nat->List (List AV)
 |some i=>rows.set i e
 |none=>rows++[e]
def dP (rows:List (List AV)):Option Nat->List (List AV)
 |some i=>rows.eraseIdx i
 |none=>rows
def bS (q:MW) (vs:List AV) (g:Rows):Option Rows:=
 match q,vs with
 | .set m,[x,k,v]=>(dW g m x).bind fun p=>(fS m k p.2.rows).bind fun fi=>if p.2.w/\v.cell/\v.isAgg=false then some (bL g p.1 {p.2 with rows:=dQ p.2.rows (k.cells++[v]) fi})else none
 | .del m,[x,k]=>(dW g m x).bind fun p=>(fS m k p.2.rows).bind fun fi=>if p.2.w then some (bL g p.1 {p.2 with rows:=dP p.2.rows fi})else none
 |_,_=>none
def eS (o:gH) (ρ:O->AV) (g:Rows) (id:Id):Option (AV×Option Row):=
 match o with
 | .dv x=>some (ρ x,none)
 | .pick c a b=>(dd (ρ c) (ρ a) (ρ b)).map (·,none)
 | .new zero=>some (.ptr id 0 0,some ⟨true,zero.length,[zero.map K.av]⟩)
 | .box x=>(cP (ρ x)).map fun cs=>(.ptr id 0 0,some ⟨true,cs.length,[cs]⟩)
 | .build zero parts=>(cI (zero.map K.av) (parts.map fun(o,n,x)=>(o,n,ρ x))).map fun cs=>(.agg cs,none)
 | .lQ sz len parts=>(rowsOf sz (parts.map ρ)).map fun rs=>(.own id 0 len,some ⟨true,sz,rs⟩)
 | .load agg n a=>(ld g agg n (ρ a)).map (·,none)
 | .AL x=>(eh (ρ x)).map (·,none)
 | .bin op _ x y=>(ef op (ρ x) (ρ y)).map (·,none)
 | .sh left x y=>(ik left (ρ x) (ρ y)).map (·,none)
 | .Lv op x y=>(de op (ρ x) (ρ y)).map (·,none)
 | .N9 neg t x y=>(fW t (ρ x) (ρ y)).map fun b=>(.bool (dw neg b),none)
 | .SM neg ts x y=>match ρ x,ρ y with
  | .agg xs,.agg ys=>(fe ts xs ys).map fun b=>(.bool (dw neg b),none)
  |_,_=>none
 | .Q3 neg Ma x=>(ek Ma (ρ x)).map fun b=>(.bool (dw neg b),none)
 | .SN neg x=>(KQ (ρ x)).map fun b=>(.bool (dw neg b),none)
 | .not x=>(eo (ρ x)).map (·,none)
 | .neg x=>(ej (ρ x)).map (·,none)
 | .conv k x=>(cR k (ρ x)).map (·,none)
 | .Fq x=>(cm (ρ x)).map (·,none)
 | .slice sz x lo hi=>(cj g sz (ρ x) (lo.map ρ) (hi.map ρ)).map (·,none)
 | .An x lo hi=>(bl (ρ x) (lo.map ρ) (hi.map ρ)).map (·,none)
 | .gh off x=>(Fe off (ρ x)).map (·,none)
 | .field agg off n x=>(bW agg off n (ρ x)).map (·,none)
 | .dS sz x i=>(b4 g sz (ρ x) (ρ i)).map (·,none)
 | .L3 len sz x i=>(cU len sz (ρ x) (ρ i)).map (·,none)
 | .L5 x i=>(cW (ρ x) (ρ i)).map (·,none)
 | .eR agg len n x i=>(cV agg len n (ρ x) (ρ i)).map (·,none)
 | .extract i x=>(aV i (ρ x)).map (·,none)
 | .len x=>(ei (ρ x)).map fun(n:Nat)=>(AV.int .i64 (n:Int),none)
 | .Mf x=>(cZ (ρ x)).map (·,none)
 | .Mm f di=>some (.fn f (di.map ρ),none)
 | .Mn f first=>some (.ue f (first.map ρ),none)
 | .j6 zero l c=>(ij zero (ρ l) (ρ c)).map fun(n,r)=>(.own id 0 n,some r)
 | .mq q xs=>bH q (xs.map ρ) g id
 | .JV x=>(da (ρ x)).map fun n=>(.rF id,some ⟨true,qw+n,[]⟩)
 | .JL x=>(cY g (ρ x)).map (·,none)
 |_=>none
def bx (g:Rows):AV->Option (List (List AV))
 | .bE=>some []
 | .sl rows=>some rows
 | .own id off len=>(g id).bind fun r=>if off+len<=r.rows.length then some ((r.rows.drop off).take len)else none
 |_=>none
def cK (cs:List AV) (off:Nat) (xs:List AV):List AV:=cs.take off++xs++cs.drop (off+xs.length)
def ck (g:Rows) (n:Nat) (v:AV):AV->Option Rows
 | .ptr id i off=>(g id).bind fun r=>(r.rows[i]?).bind fun cs=>
  if r.w/\v.cells.length=n/\v.cells.all AV.cell/\off+n<=cs.length then some (bL g id {r with rows:=r.rows.set i (cK cs off v.cells)})else none
 |_=>none
def bd (g:Rows) (id:Id) (sz:Nat) (x:AV) (ys:List (List AV)):Option (AV×Rows):=
 match x with
 | .bE=>match ys with
  |[]=>some (.bE,g)
  |y::r=>if (y::r).length<=dI/\(y::r).all (fun c=>c.length==sz&&c.all AV.cell)then some (.own id 0 (y::r).length,bL g id ⟨true,sz,y::r⟩)else none
 | .own i 0 len=>(g i).bind fun r=>
  if r.w/\r.sz=sz/\len=r.rows.length/\len+ys.length<=dI/\ys.all (fun c=>c.length==sz&&c.all AV.cell)then some (.own id 0 (len+ys.length),bL (cD g i) id ⟨true,sz,r.rows++ys⟩)else none
 |_=>none
def Ga (g:Rows) (sz:Nat) (x:AV) (ys:List (List AV)):Option (AV×Rows):=
 match x with
 | .own i off len=>(g i).bind fun r=>
  if r.w/\r.sz=sz/\off+len<=r.rows.length/\ys.all (fun c=>c.length==sz&&c.all AV.cell)then
   some (.int .i64 (min ys.length len:Nat),bL g i {r with rows:=r.rows.take off++ys.take (min ys.length len)++r.rows.drop (off+min ys.length len)})else none
 |_=>none
def bV (g:Rows) (zero:List K) (x:AV):Option Rows:=
 match x with
 | .bE=>some g
 | .own i off len=>(g i).bind fun r=>
  if r.w/\r.sz=zero.length/\off+len<=r.rows.length then
   some (bL g i {r with rows:=r.rows.take off++List.replicate len (zero.map K.av)++r.rows.drop (off+len)})else none
 |_=>none
def ga (o:gH) (ρ:O->AV) (g:Rows) (id:Id):Option (AV×Rows):=
 match o with
 | .store n a x=>(ck g n (ρ x) (ρ a)).map fun g'=>(.undef,g')
 | .append sz x y=>(bx g (ρ y)).bind fun ys=>bd g id sz (ρ x) ys
 | .copy sz x y=>(bx g (ρ y)).bind fun ys=>Ga g sz (ρ x) ys
 | .clear zero x=>(bV g zero (ρ x)).map fun g'=>(.undef,g')
 | .mw q xs=>(bS q (xs.map ρ) g).map fun g'=>(.undef,g')
 |_=>none
def vW:AV->List AV->Option (Nat×List AV)
 | .fn f di,l=>some (f,l++di)
 | .ue f first,l=>some (f,first++l)
 |_,_=>none
abbrev fP:=Nat->List AV->ar->(AV->ar->Prop)->Prop
mutual
def fz (g:Rows):Nat->AV->Option AV
 |0,_=>none
 |n+1,a=>match a with
  | .own id off len=>match g id with
   |some r=>if r.w then(if off+len<=r.rows.length then(eC g n ((r.rows.drop off).take len)).map AV.sl else none)else none
   |none=>none
  | .ptr id i off=>match g id with
   |some r=>if r.w then(match r.rows[i]? with
    |some cs=>(dn g n (cs.drop off)).map AV.dq
    |none=>none)else none
   |none=>none
  | .agg cs=>(dn g n cs).map AV.agg
  | .gE vs=>(dn g n vs).map AV.gE
  | .fn f di=>if di.all AV.cell then(dn g n di).map (AV.fn f)else none
  | .map _ _| .ue _ _| .rF _=>none
  |v=>some v
 termination_by n _=>(n,0)
def dn (g:Rows):Nat->List AV->Option (List AV)
 |n,[]=>some []
 |n,a::r=>match fz g n a with
  |some b=>(dn g n r).map (b::·)
  |none=>none
 termination_by n l=>(n,l.length+1)
def eC (g:Rows):Nat->List (List AV)->Option (List (List AV))
 |n,[]=>some []
 |n,c::r=>match dn g n c with
  |some b=>(eC g n r).map (b::·)
  |none=>none
 termination_by n l=>(n,(l.map (fun c=>c.length+2)).sum+1)
 decreasing_by all_goals simp_wf;try omega
end
mutual
def gG (g:Rows):Nat->AV->Option AV
 |0,_=>none
 |n+1,a=>match a with
  | .own id off len=>match g id with
   |some r=>if r.w then(if off+len<=r.rows.length then(iu g n ((r.rows.drop off).take len)).map AV.sl else none)else none
   |none=>none
  | .ptr id i off=>match g id with
   |some r=>if r.w then(match r.rows[i]? with
    |some cs=>(eD g n (cs.drop off)).map AV.dq
    |none=>none)else none
   |none=>none
  | .agg cs=>(eD g n cs).map AV.agg
  | .gE vs=>(eD g n vs).map AV.gE
  | .int k m=>some (.int k m)
  | .bool b=>some (.bool b)
  | .str s=>some (.str s)
  | .bE=>some .bE
  | .gN=>some .gN
  | .je=>some .je
  | .jo=>some .jo
  |_=>none
 termination_by n _=>(n,0)
def eD (g:Rows):Nat->List AV->Option (List AV)
 |n,[]=>some []
 |n,a::r=>match gG g n a with
  |some b=>(eD g n r).map (b::·)
  |none=>none
 termination_by n l=>(n,l.length+1)
def iu (g:Rows):Nat->List (List AV)->Option (List (List AV))
 |n,[]=>some []
 |n,c::r=>match eD g n c with
  |some b=>(iu g n r).map (b::·)
  |none=>none
 termination_by n l=>(n,(l.map (fun c=>c.length+2)).sum+1)
 decreasing_by all_goals simp_wf;try omega
end
def dR (g:Rows):Rows:=fun id=>(g id).map fun r=>{r with w:=true}
def PC (X:fP) (f:Nat) (args:List AV) (σ:ar) (K:AV->Prop):Prop:=
 X f args ⟨ro σ.get,σ.next⟩ fun r σ'=>∃r',fz σ'.get 6 r=some r'/\K r'
def PCv (X:fP) (f:Nat) (args:List AV) (σ:ar) (K:AV->Prop):Prop:=
 ∃args',dn (dR σ.get) 6 args=some args'/\X f args' ⟨fun _=>none,σ.next⟩ fun r σ'=>∃r',gG σ'.get 6 r=some r'/\K r'
def gy (X:fP) (f:Nat) (args:List AV) (σ:ar) (K:AV->Prop):Prop:=PC X f args σ K∨PCv X f args σ K
def aT (g:Option (Nat×Bool)) (env:Env):Bool:=
 match g with
 |none=>true
 |some (t,b)=>match env t with
  | .bool c=>c==b
  |_=>false
def AV.plain:AV->Bool
 | .int .. | .bool _| .str _| .bE| .gN| .je| .jo=>true
 |_=>false
def CM (X:fP) (f:Nat) (args:List AV) (σ:ar) (sz:Nat) (rows:List (List AV)):Prop:=
 (∀c∈rows,∀a∈c,a.plain=true)/\∃args',dn (dR σ.get) 6 args=some args'/\X f args' ⟨fun _=>none,σ.next⟩ fun r σ'=>∃id,r=.own id 0 rows.length/\σ'.get id=some ⟨true,sz,rows⟩
def cJ (X:fP) (draw:Bool) (hid:List Nat) (site:Nat) (f:Nat) (args:List AV) (σ:ar) (next:AV->ar->Prop):Prop:=
 (∃r,gy X f args ⟨fZ hid σ.next σ.get,σ.next+1⟩ (fun r'=>r'=r)/\next r σ)∨
 (draw=false/\X f args ⟨σ.get,σ.next+1⟩ next)∨
 (hid.contains site=true/\∃sz rows,CM X f args ⟨fZ hid σ.next σ.get,σ.next+1⟩ sz rows/\next (.own ⟨site,σ.next⟩ 0 rows.length) ⟨bL σ.get ⟨site,σ.next⟩ ⟨true,sz,rows⟩,σ.next⟩)
def fK (X:fP) (draw:Bool) (o:br) (env:Env) (σ:ar) (next:AV->ar->Prop):Prop:=
 match o.op with
 | .call f args=>cJ X draw o.hid o.site f (args.map (dj env)) σ next
 | .tQ x args=>match dj env x with
  | .fn f di=>cJ X draw o.hid o.site f (args.map (dj env)++di) σ next
  | .ue f first=>cJ X draw o.hid o.site f (first++args.map (dj env)) σ next
  |_=>False
 | .store .. | .append .. | .copy .. | .clear .. | .mw .. =>match ga o.op (dj env) σ.get ⟨o.site,σ.next⟩with
  |some (v,g)=>next v ⟨g,σ.next⟩
  |none=>False
 |_=>match eS o.op (dj env) (fZ o.hid σ.next σ.get) ⟨o.site,σ.next⟩with
  |some (v,some r)=>next v ⟨bL σ.get ⟨o.site,σ.next⟩ r,σ.next⟩
  |some (v,none)=>next v σ
  |none=>False
def wpOps (X:fP) (draw:Bool):List br->(Env->ar->Prop)->Env->ar->Prop
 |[],K,env,σ=>K env ⟨σ.get,σ.next+1⟩
 |o::r,K,env,σ=>
  if aT o.guard env then fK X draw o env σ fun v σ'=>wpOps X draw r K (upd env o.dst v) σ'
  else wpOps X draw r K (upd env o.dst .undef) σ
def cH:List br->(Env->ar->Prop)->Env->ar->Prop
 |[],K,env,σ=>K env ⟨σ.get,σ.next+1⟩
 |o::r,K,env,σ=>o.guard=none/\match o.op with
  | .snd x y=>match er σ.get (dj env x) (dj env y)with
   |some g=>cH r K (upd env o.dst .undef) ⟨g,σ.next⟩
   |none=>False
  | .Pw x=>match ep σ.get (dj env x)with
   |some (v,g)=>cH r K (upd env o.dst v) ⟨g,σ.next⟩
   |none=>False
  |op=>match eS op (dj env) σ.get ⟨o.site,σ.next⟩with
   |some (v,none)=>cH r K (upd env o.dst v) σ
   |_=>False
def du (next:Env->ar->Prop) (Q:Ex->Env->ar->Prop):Ex->Env->ar->Prop
 | .normal=>next
 |e=>Q e
def bj (id:Nat) (Q:Ex->Env->ar->Prop):Ex->Env->ar->Prop
 | .exit j5=>if j5=id then Q .normal else Q (.exit j5)
 |e=>Q e
def FU (W:(Ex->Env->ar->Prop)->Env->ar->Prop) (Q:Ex->Env->ar->Prop):Nat->Env->ar->Prop
 |0=>fun _ _=>False
 |n+1=>W (du (FU W Q n) Q)
def Mg (t s:Nat) (y:O) (env:Env) (n:Nat):Prop:=(∃len,env t=.own ⟨s,n⟩ 0 len)/\∀id o l,dj env y=.own id o l->id.bQ≠n
def dO (X:fP):VC->(Ex->Env->ar->Prop)->Env->ar->Prop
 | .skip,Q=>Q .normal
 | .eO draw ops,Q=>wpOps X draw ops (Q .normal)
 | .seq a b,Q=>dO X a (du (dO X b Q) Q)
 | .cond c x y,Q=>fun env σ=>match dj env c with
  | .bool b=>if b then dO X x Q env σ else dO X y Q env σ
  |_=>False
 | .block id c,Q=>dO X c (bj id Q)
 | .loop c,Q=>fun env σ=>∃n,FU (dO X c) Q n env σ
 | .exit id,Q=>Q (.exit id)
 | .ret,Q=>Q .ret
 | .one o c,Q=>fun env σ=>if aT o.guard env then fK X false o env σ fun v σ'=>dO X c Q (upd env o.dst v) σ' else dO X c Q (upd env o.dst .undef) σ
 | .both a b,Q=>fun env σ=>dO X a Q env σ/\dO X b Q env σ
 | .loc t s y c,Q=>fun env σ=>Mg t s y env σ.next/\dO X c Q env σ
 | .N3 ops,Q=>cH ops (Q .normal)
def iw (env:Env) (g:Rows):nO->Option AV
 | .tmp t=>some (env t)
 | .cell agg n t=>ld g agg n (env t)
def fx (env:Env) (g:Rows):List nO->Option (List AV)
 |[]=>some []
 |r::l=>(iw env g r).bind fun v=>(fx env g l).map (v::·)
def eY:List AV->AV
 |[v]=>v
 |l=>.gE l
def cF (args:List AV):Env:=fun t=>args.getD t .undef
def kI (res:List nO) (K:AV->ar->Prop):Ex->Env->ar->Prop
 | .exit _,_,_=>False
 |_,env,σ=>∃vs,fx env σ.get res=some vs/\K (eY vs) σ
end Go.Proofs.YtgoelphibofcmaaGreat.V

namespace Go.Proofs.YtgoelphibofcmaaGreat.V
open Go.RowKit
inductive jQ (P:Program) (w:World) (D:Nat->Prop):AV->Value->Prop
 |int (k n):jQ P w D (.int k n) (.int k n)
 |bool (b):jQ P w D (.bool b) (.bool b)
 |str (s):jQ P w D (.str s) (.string s)
 |bE:jQ P w D .bE (.slice none 0 0)
 |gN:jQ P w D .gN (.pointer none)
 |je:jQ P w D .je .nilFunc
 |AR (a c):c<=maxLen->jQ P w D (.sl []) (.slice a 0 c)
 |sl (rows b o n c sz) (vs:Nat->Nat->Value):rows.length=n->n<=c->c<=maxLen->D b->(∀cs∈rows,cs.length=sz)->(∀cs∈rows,∀a∈cs,a.cell=true)->
   (∀i j,i<n->j<sz->w.cell? ⟨b,o+(i*sz+j),none⟩=some (vs i j))->
   (∀i j cs a,rows[i]? =some cs->cs[j]? =some a->jQ P w D a (vs i j))->jQ P w D (.sl rows) (.slice (some ⟨b,o,none⟩) n c)
 |dq (cs b o) (vs:Nat->Value):D b->(∀a∈cs,a.cell=true)->(∀j,j<cs.length->w.cell? ⟨b,o+j,none⟩=some (vs j))->
   (∀j a,cs[j]? =some a->jQ P w D a (vs j))->jQ P w D (.dq cs) (.pointer (some ⟨b,o,none⟩))
 |agg (cs) (vs:Array Value) (f:Nat->Value):vs.size=cs.length->(∀a∈cs,a.cell=true)->(∀j,j<cs.length->vs[j]? =some (f j))->(∀j a,cs[j]? =some a->jQ P w D a (f j))->jQ P w D (.agg cs) (.agg vs)
 |fn (f di) (vs:Array Value) (g:Nat->Value):fQ P f=true->vs.size=di.length->(∀j,j<di.length->vs[j]? =some (g j))->(∀j a,di[j]? =some a->jQ P w D a (g j))->jQ P w D (.fn f di) (.func (.func f) #[] vs)
 |jo:jQ P w D .jo (.map none)
inductive BK where
 |map (m:MK)
 |chan (cap:Nat)
structure sG where
 b:Nat
 sz:Nat
 C:Nat
 k:Option BK
abbrev Names:=Id->Option sG
inductive cL (P:Program) (w:World) (D:Nat->Prop) (ι:Names):AV->Value->Prop
 |eT (a v):jQ P w D a v->cL P w D ι a v
 |own (id off len o cap B):ι id=some B->B.k=none->len<=cap->(cap=0∨o=off*B.sz)->(off+cap)*B.sz<=B.C->cap<=maxLen->cL P w D ι (.own id off len) (.slice (some ⟨B.b,o,none⟩) len cap)
 |ptr (id i off B):ι id=some B->B.k=none->cL P w D ι (.ptr id i off) (.pointer (some ⟨B.b,i*B.sz+off,none⟩))
 |agg (cs) (vs:Array Value) (f:Nat->Value):vs.size=cs.length->(∀a∈cs,a.cell=true)->(∀j,j<cs.length->vs[j]? =some (f j))->(∀j a,cs[j]? =some a->cL P w D ι a (f j))->cL P w D ι (.agg cs) (.agg vs)
 |gE (cs) (vs:Array Value) (f:Nat->Value):vs.size=cs.length->(∀j,j<cs.length->vs[j]? =some (f j))->(∀j a,cs[j]? =some a->cL P w D ι a (f j))->cL P w D ι (.gE cs) (.tuple vs)
 |fn (f di) (vs:Array Value) (g:Nat->Value):fQ P f=true->vs.size=di.length->(∀j,j<di.length->vs[j]? =some (g j))->(∀j a,di[j]? =some a->cL P w D ι a (g j))->cL P w D ι (.fn f di) (.func (.func f) #[] vs)
 |rF (id c B):ι id=some B->B.k=some (.chan c)->cL P w D ι (.rF id) (.chan (some B.b))
 |map (id m B):ι id=some B->B.k=some (.map m)->cL P w D ι (.map id m) (.map (some B.b))
 |ue (f di) (vs:Array Value) (g:Nat->Value):fQ P f=true->vs.size=di.length->(∀j,j<di.length->vs[j]? =some (g j))->(∀j a,di[j]? =some a->cL P w D ι a (g j))->cL P w D ι (.ue f di) (.func (.func f) vs #[])
variable {P:Program} {w w':World} {D D':Nat->Prop} {ι ι':Names}
theorem jQ.frame (hD:∀b,D b->w'.heap[b]? =w.heap[b]?) (hs:∀b,D b->D' b) {a:AV} {v:Value} (h:jQ P w D a v):jQ P w' D' a v:=by
 induction h with
 |int k n=>exact .int k n
 |bool b=>exact .bool b
 |str s=>exact .str s
 |bE=>exact .bE
 |gN=>exact .gN
 |je=>exact .je
 |jo=>exact .jo
 |AR a c h=>exact .AR a c h
 |sl rows b o n c sz vs h1 h2 h3 h4 h5 h5' h6 _ ih=>exact .sl rows b o n c sz vs h1 h2 h3 (hs b h4) h5 h5' (fun i j hi hj=>(World.cell?_of_block (hD b h4)).trans (h6 i j hi hj)) ih
 |dq cs b o vs h1 Oh h2 _ ih=>exact .dq cs b o vs (hs b h1) Oh (fun j hj=>(World.cell?_of_block (hD b h1)).trans (h2 j hj)) ih
 |agg cs vs f h1 h2 h3 _ ih=>exact .agg cs vs f h1 h2 h3 ih
 |fn f di vs g h1 h2 h3 _ ih=>exact .fn f di vs g h1 h2 h3 ih
theorem cL.frame (hD:∀b,D b->w'.heap[b]? =w.heap[b]?) (hs:∀b,D b->D' b) (hι:∀id B,ι id=some B->ι' id=some B) {a:AV} {v:Value} (h:cL P w D ι a v):cL P w' D' ι' a v:=by
 induction h with
 |eT a v h=>exact .eT a v (h.frame hD hs)
 |map id m B h1 h2=>exact .map id m B (hι _ _ h1) h2
 |rF id c B h1 h2=>exact .rF id c B (hι _ _ h1) h2
 |own id off len o cap B h1 h2 h3 h4 h5 h6=>exact .own id off len o cap B (hι _ _ h1) h2 h3 h4 h5 h6
 |ptr id i off B h1 h2=>exact .ptr id i off B (hι _ _ h1) h2
 |agg cs vs f h1 h2 h3 _ ih=>exact .agg cs vs f h1 h2 h3 ih
 |gE cs vs f h1 h2 _ ih=>exact .gE cs vs f h1 h2 ih
 |fn f di vs g h1 h2 h3 _ ih=>exact .fn f di vs g h1 h2 h3 ih
 |ue f di vs g h1 h2 h3 _ ih=>exact .ue f di vs g h1 h2 h3 ih
theorem cL.undef:cL P w D ι .undef Go.undef:=.gE [] #[] (fun _=>Go.undef) rfl (fun j hj=>by simp at hj) (fun j a h=>by simp at h)
theorem w9 (c:K):cL P w D ι c.av c.val:=by
 cases c with
 |int k n=>exact .eT _ _ (.int k n)
 |bool b=>exact .eT _ _ (.bool b)
 |str l=>exact .eT _ _ (.str _)
 |bE=>exact .eT _ _ .bE
 |gN=>exact .eT _ _ .gN
 |je=>exact .eT _ _ .je
 |jo=>exact .eT _ _ .jo
theorem K.mW (c:K):c.av.cell=true:=by cases c<;>rfl
theorem zR {v:Value} {c:K} (h:G0 v=some c):v=c.val:=by
 unfold G0 at h
 split at h<;>simp at h<;>subst h<;>rfl
theorem cL.Bf {a:AV} {v:Value} (h:cL P w D ι a v) (hc:a.cell=true):v.cells= #[v]/\(∀vs,v≠.agg vs)/\(∀vs,v≠.tuple vs):=by
 cases h with
 |eT a v h=>cases h<;>simp_all [AV.cell,Value.cells]
 |own=>simp[Value.cells]
 |map=>simp[Value.cells]
 |rF=>simp[Value.cells]
 |ptr=>simp[Value.cells]
 |agg=>simp[AV.cell]at hc
 |gE=>simp[AV.cell]at hc
 |fn=>simp[Value.cells]
 |ue=>simp[Value.cells]
theorem cL.cells {a:AV} {v:Value} (h:cL P w D ι a v) (ha:a.cells.all AV.cell=true):v.cells.size=a.cells.length/\∃f:Nat->Value,(∀j,j<a.cells.length->v.cells[j]? =some (f j))/\∀j x,a.cells[j]? =some x->cL P w D ι x (f j):=by
 have one:∀(a:AV) (v:Value),a.cell=true->a.cells=[a]->cL P w D ι a v->v.cells.size=a.cells.length/\∃f:Nat->Value,(∀j,j<a.cells.length->v.cells[j]? =some (f j))/\∀j x,a.cells[j]? =some x->cL P w D ι x (f j):=by
  intro a v hc dy h
  obtain⟨h1,_,_⟩:=h.Bf hc
  rw[h1,dy]
  refine⟨rfl,fun _=>v,fun j hj=>?_,fun j x hx=>?_⟩
  ·have:j=0:=by simp at hj;omega
   subst this;rfl
  ·cases j with
   |zero=>simp at hx;subst hx;exact h
   |succ j=>simp at hx
 cases h with
 |eT a v h=>
  cases h with
  |agg cs vs f h1 h2 h3 h4=>exact⟨h1,f,h3,fun j x hx=>.eT _ _ (h4 j x hx)⟩
  |_=>exact one _ _ rfl rfl (.eT _ _ (by constructor<;>assumption))
 |own id off len o cap B h1 h2 h3 h4 h5 h6=>exact one _ _ rfl rfl (.own id off len o cap B h1 h2 h3 h4 h5 h6)
 |ptr id i off B h1 h2=>exact one _ _ rfl rfl (.ptr id i off B h1 h2)
 |map id m B h1 h2=>exact one _ _ rfl rfl (.map id m B h1 h2)
 |rF id c B h1 h2=>exact one _ _ rfl rfl (.rF id c B h1 h2)
 |agg cs vs f h1 h2 h3 h4=>exact⟨h1,f,h3,h4⟩
 |gE cs vs f h1 h2 h3=>simp[AV.cells,AV.cell]at ha
 |fn f di vs g h1 h2 h3 h4=>exact one _ _ rfl rfl (.fn f di vs g h1 h2 h3 h4)
 |ue f di vs g h1 h2 h3 h4=>exact one _ _ rfl rfl (.ue f di vs g h1 h2 h3 h4)
structure lE (P:Program) (w:World) (D:Nat->Prop) (ι:Names) (B:sG) (r:Row):Prop where
 sz:B.sz=r.sz
 xI:∃cells T,w.heap[B.b]? =some (.cells cells T (0,0))/\cells.size=B.C
 fits:r.rows.length*r.sz<=B.C
 len:∀cs∈r.rows,cs.length=r.sz
 flat:∀cs∈r.rows,∀a∈cs,a.cell=true
 at_:∀i j cs a,r.rows[i]? =some cs->cs[j]? =some a->∃v,w.cell? ⟨B.b,i*r.sz+j,none⟩=some v/\cL P w D ι a v
def Lj (es:Array MapEntry) (clock:Nat):Prop:=(∀x∈es.toList,x.born<clock)/\(es.toList.map (·.born)).Nodup
def M4 (P:Program) (w:World) (D:Nat->Prop) (ι:Names) (B:sG) (m:MK) (r:Row):Prop:=
 ∃(es:Array MapEntry) (clock:Nat),w.heap[B.b]? =some (.map es clock)/\es.size=r.rows.length/\((∀cs∈r.rows,cs.length=m.ks+1)/\Lj es clock)/\
  ∀(i:Nat) (cs:List AV),r.rows[i]? =some cs->∃(e:MapEntry) (kv vv:AV),es[i]? =some e/\part m.ka m.ks cs=some kv/\cs[m.ks]? =some vv/\cL P w D ι kv e.key/\cL P w D ι vv e.val
def Ij (P:Program) (w:World) (D:Nat->Prop) (ι:Names) (B:sG) (c:Nat) (r:Row):Prop:=
 ∃(buf:Array Value) (s q:Nat),w.heap[B.b]? =some (.chan c buf false s q false)/\buf.size=r.rows.length/\
  ∀(i:Nat) (cs:List AV),r.rows[i]? =some cs->∃(a:AV) (u:Value),cs=[a]/\buf[i]? =some u/\cL P w D ι a u
structure gT (P:Program) (w:World) (D:Nat->Prop) (ι:Names) (B:sG) (r:Row):Prop where
 sz:B.sz=r.sz
 flat:∀cs∈r.rows,∀a∈cs,a.cell=true
 row:B.k=none->lE P w D ι B r
 map:∀m,B.k=some (.map m)->r.sz=m.pG/\M4 P w D ι B m r
 chan:∀c,B.k=some (.chan c)->r.sz=qw+c/\Ij P w D ι B c r
theorem lE.obj {B:sG} {r:Row} (R:lE P w D ι B r) (h:B.k=none):gT P w D ι B r:=⟨R.sz,R.flat,fun _=>R,fun m hm=>(by rw[h]at hm;cases hm),fun m hm=>by rw[h]at hm;cases hm⟩
theorem gT.flag {B:sG} {r:Row} (R:gT P w D ι B r) (b:Bool):gT P w D ι B {r with w:=b}:=⟨R.sz,R.flat,fun h=>⟨R.sz,(R.row h).xI,(R.row h).fits,(R.row h).len,R.flat,(R.row h).at_⟩,R.map,R.chan⟩
theorem gT.cells {B:sG} {r:Row} (R:gT P w D ι B r) (h:r.sz<r4):B.k=none:=by
 cases hk:B.k with
 |none=>rfl
 |some m=>
  cases m with
  |map m=>
   have h1:=(R.map m hk).1
   unfold MK.pG at h1
   omega
  |chan c=>
   have h1:=(R.chan c hk).1
   unfold qw at h1
   unfold r4 at h
   omega
theorem gT.Mp {B:sG} {r:Row} (R:gT P w D ι B r) {c:Array Value} {T:TypeId} {z:Nat×Nat} (h:w.heap[B.b]? =some (.cells c T z)):B.k=none:=by
 cases hk:B.k with
 |none=>rfl
 |some m=>
  cases m with
  |map m=>obtain⟨_,es,c,h3,_⟩:=R.map m hk;rw[h]at h3;cases h3
  |chan c=>obtain⟨_,buf,s,q,h3,_⟩:=R.chan c hk;rw[h]at h3;cases h3
theorem gT.lt {B:sG} {r:Row} (R:gT P w D ι B r):B.b<w.heap.size:=by
 cases h:B.k with
 |none=>
  obtain⟨c,T,h3,_⟩:=(R.row h).xI
  exact(Array.getElem?_eq_some_iff.1 h3).1
 |some m=>
  cases m with
  |map m=>obtain⟨_,es,c,h3,_⟩:=R.map m h;exact(Array.getElem?_eq_some_iff.1 h3).1
  |chan c=>obtain⟨_,buf,s,q,h3,_⟩:=R.chan c h;exact(Array.getElem?_eq_some_iff.1 h3).1
structure gF (P:Program) (hs:Nat) (D:Nat->Prop) (ι:Names) (g:Rows) (w:World):Prop where
 lo:hs<=w.heap.size
 dead:∀b,D b->b<w.heap.size
 row:∀id r,g id=some r->∃B,ι id=some B/\gT P w D ι B r/\(r.w=true->hs<=B.b)/\(r.w=true->¬D B.b)
 inj:∀id j5 r r' B B',g id=some r->g j5=some r'->r.w=true->ι id=some B->ι j5=some B'->B.b=B'.b->id=j5
def Used (ι:Names) (n:Nat) (U:Nat->Prop):Prop:=∀id,ι id≠none->id.bQ<n∨(id.bQ=n/\U id.site)
structure Step (hs:Nat) (D:Nat->Prop) (ι:Names) (w:World) (D':Nat->Prop) (ι':Names) (w':World):Prop where
 below:Below hs w w'
 qM:∀b,D b->w'.heap[b]? =w.heap[b]?
 dead:∀b,D b->D' b
 names:∀id B,ι id=some B->ι' id=some B
 new:∀b,D' b->D b∨hs<=b
theorem Step.refl (hs:Nat) (D:Nat->Prop) (ι:Names) (w:World):Step hs D ι w D ι w:=⟨Below.refl _ _,fun _ _=>rfl,fun _ h=>h,fun _ _ h=>h,fun _ h=>.inl h⟩
theorem Step.trans {hs:Nat} {D D' D'':Nat->Prop} {ι ι' SK:Names} {w w' Lf:World} (h:Step hs D ι w D' ι' w') (k:Step hs D' ι' w' D'' SK Lf):Step hs D ι w D'' SK Lf:=
 ⟨h.below.trans k.below,fun b hb=>(k.qM b (h.dead b hb)).trans (h.qM b hb),fun b hb=>k.dead b (h.dead b hb),fun id B hB=>k.names id B (h.names id B hB),fun b hb=>by
  rcases k.new b hb with hb|hb
  ·exact h.new b hb
  ·exact .inr hb⟩
theorem Step.rep {hs:Nat} {D D':Nat->Prop} {ι ι':Names} {w w':World} (h:Step hs D ι w D' ι' w') {a:AV} {v:Value} (hr:cL P w D ι a v):cL P w' D' ι' a v:=hr.frame h.qM h.dead h.names
theorem dz {k n} {v:Value} (h:cL P w D ι (.int k n) v):v=.int k n:=by
 cases h with
 |eT _ _ h=>cases h;rfl
theorem fm {b} {v:Value} (h:cL P w D ι (.bool b) v):v=.bool b:=by
 cases h with
 |eT _ _ h=>cases h;rfl
theorem fI {s} {v:Value} (h:cL P w D ι (.str s) v):v=.string s:=by
 cases h with
 |eT _ _ h=>cases h;rfl
theorem kj {v:Value} (h:cL P w D ι .bE v):v=.slice none 0 0:=by
 cases h with
 |eT _ _ h=>cases h;rfl
theorem xb {v:Value} (h:cL P w D ι .je v):v=.nilFunc:=by
 cases h with
 |eT _ _ h=>cases h;rfl
theorem iV {cs} {v:Value} (h:cL P w D ι (.agg cs) v):∃(vs:Array Value) (f:Nat->Value),v=.agg vs/\vs.size=cs.length/\(∀a∈cs,a.cell=true)/\(∀j,j<cs.length->vs[j]? =some (f j))/\∀j a,cs[j]? =some a->cL P w D ι a (f j):=by
 cases h with
 |eT _ _ h=>
  cases h with
  |agg cs vs f h1 h2 h3 h4=>exact⟨vs,f,rfl,h1,h2,h3,fun j a h=>.eT _ _ (h4 j a h)⟩
 |agg cs vs f h1 h2 h3 h4=>exact⟨vs,f,rfl,h1,h2,h3,h4⟩
theorem vd {cs} {v:Value} (h:cL P w D ι (.gE cs) v):∃(vs:Array Value) (f:Nat->Value),v=.tuple vs/\vs.size=cs.length/\(∀j,j<cs.length->vs[j]? =some (f j))/\∀j a,cs[j]? =some a->cL P w D ι a (f j):=by
 cases h with
 |eT _ _ h=>cases h
 |gE cs vs f h1 h2 h3=>exact⟨vs,f,rfl,h1,h2,h3⟩
theorem Af {f di} {v:Value} (h:cL P w D ι (.fn f di) v):∃(vs:Array Value) (g:Nat->Value),v=.func (.func f) #[] vs/\fQ P f=true/\vs.size=di.length/\(∀j,j<di.length->vs[j]? =some (g j))/\∀j a,di[j]? =some a->cL P w D ι a (g j):=by
 cases h with
 |eT _ _ h=>
  cases h with
  |fn f di vs g h1 h2 h3 h4=>exact⟨vs,g,rfl,h1,h2,h3,fun j a h=>.eT _ _ (h4 j a h)⟩
 |fn f di vs g h1 h2 h3 h4=>exact⟨vs,g,rfl,h1,h2,h3,h4⟩
theorem Ke {v:Value} (h:cL P w D ι .gN v):v=.pointer none:=by
 cases h with
 |eT _ _ h=>cases h;rfl
theorem Cx {v:Value} (h:cL P w D ι .jo v):v=.map none:=by
 cases h with
 |eT _ _ h=>cases h;rfl
theorem ME {f di} {v:Value} (h:cL P w D ι (.ue f di) v):∃(vs:Array Value) (g:Nat->Value),v=.func (.func f) vs #[]/\fQ P f=true/\vs.size=di.length/\(∀j,j<di.length->vs[j]? =some (g j))/\∀j a,di[j]? =some a->cL P w D ι a (g j):=by
 cases h with
 |eT _ _ h=>cases h
 |ue f di vs g h1 h2 h3 h4=>exact⟨vs,g,rfl,h1,h2,h3,h4⟩
theorem iW {id off len} {v:Value} (h:cL P w D ι (.own id off len) v):∃o cap B,v=.slice (some ⟨B.b,o,none⟩) len cap/\ι id=some B/\len<=cap/\(cap=0∨o=off*B.sz)/\(off+cap)*B.sz<=B.C/\cap<=maxLen/\B.k=none:=by
 cases h with
 |eT _ _ h=>cases h
 |own id off len o cap B h1 h2 h3 h4 h5 h6=>exact⟨o,cap,B,rfl,h1,h3,h4,h5,h6,h2⟩
theorem iJ {id i off} {v:Value} (h:cL P w D ι (.ptr id i off) v):∃B,v=.pointer (some ⟨B.b,i*B.sz+off,none⟩)/\ι id=some B/\B.k=none:=by
 cases h with
 |eT _ _ h=>cases h
 |ptr id i off B h1 h2=>exact⟨B,rfl,h1,h2⟩
theorem MC {id} {v:Value} (h:cL P w D ι (.rF id) v):∃B c,v=.chan (some B.b)/\ι id=some B/\B.k=some (.chan c):=by
 cases h with
 |eT _ _ h=>cases h
 |rF id c B h1 h2=>exact⟨B,c,rfl,h1,h2⟩
theorem F2 {id m} {v:Value} (h:cL P w D ι (.map id m) v):∃B,v=.map (some B.b)/\ι id=some B/\B.k=some (.map m):=by
 cases h with
 |eT _ _ h=>cases h
 |map id m B h1 h2=>exact⟨B,rfl,h1,h2⟩
theorem lf {cs} {v:Value} (h:cL P w D ι (.dq cs) v):∃b o,∃vs:Nat->Value,v=.pointer (some ⟨b,o,none⟩)/\D b/\(∀a∈cs,a.cell=true)/\(∀j,j<cs.length->w.cell? ⟨b,o+j,none⟩=some (vs j))/\∀j a,cs[j]? =some a->jQ P w D a (vs j):=by
 cases h with
 |eT _ _ h=>
  cases h with
  |dq cs b o vs h1 h2 h3 h4=>exact⟨b,o,vs,rfl,h1,h2,h3,h4⟩
theorem xc {rows} {v:Value} (h:cL P w D ι (.sl rows) v):∃A c,v=.slice A rows.length c/\rows.length<=c/\c<=maxLen/\
  (rows=[]∨∃b o sz,∃vs:Nat->Nat->Value,A=some ⟨b,o,none⟩/\D b/\(∀cs∈rows,cs.length=sz)/\(∀cs∈rows,∀a∈cs,a.cell=true)/\
   (∀i j,i<rows.length->j<sz->w.cell? ⟨b,o+(i*sz+j),none⟩=some (vs i j))/\∀i j cs a,rows[i]? =some cs->cs[j]? =some a->jQ P w D a (vs i j)):=by
 cases h with
 |eT _ _ h=>
  cases h with
  |AR a c h=>exact⟨a,c,rfl,Nat.zero_le _,h,.inl rfl⟩
  |sl rows b o n c sz vs h1 h2 h3 h4 h5 h5' h6 h7=>subst h1;exact⟨_,c,rfl,h2,h3,.inr ⟨b,o,sz,vs,rfl,h4,h5,h5',h6,h7⟩⟩
inductive eL:AV->Prop
 |int (k n):eL (.int k n)
 |bool (b):eL (.bool b)
 |str (s):eL (.str s)
 |bE:eL .bE
 |gN:eL .gN
 |je:eL .je
 |sl (rows):rows.length<=maxLen->(∀cs∈rows,∀a∈cs,eL a)->eL (.sl rows)
 |own (id off len):eL (.own id off len)
 |ptr (id i off):eL (.ptr id i off)
 |dq (cs):(∀a∈cs,eL a)->eL (.dq cs)
 |agg (cs):(∀a∈cs,eL a)->eL (.agg cs)
 |gE (cs):(∀a∈cs,eL a)->eL (.gE cs)
 |fn (f di):(∀a∈di,eL a)->eL (.fn f di)
 |map (id m):eL (.map id m)
 |rF (id):eL (.rF id)
 |jo:eL .jo
 |ue (f di):(∀a∈di,eL a)->eL (.ue f di)
theorem eL.len {rows:List (List AV)} (h:eL (.sl rows)):rows.length<=9223372036854775807:=by
 cases h with
 |sl _ h _=>unfold maxLen at h;omega
theorem eL.cell {rows:List (List AV)} (h:eL (.sl rows)) {cs:List AV} (hc:cs∈rows) {a:AV} (ha:a∈cs):eL a:=by
 cases h with
 |sl _ _ h=>exact h cs hc a ha
theorem eL.NU {cs:List AV} (h:eL (.agg cs)) {a:AV} (ha:a∈cs):eL a:=by
 cases h with
 |agg _ h=>exact h a ha
theorem eL.BX {cs:List AV} (h:eL (.dq cs)) {a:AV} (ha:a∈cs):eL a:=by
 cases h with
 |dq _ h=>exact h a ha
theorem oU {l:List AV} {p:AV->Prop} (h:∀(j:Nat) (a:AV),l[j]? =some a->p a):∀a∈l,p a:=fun a ha=>by
 obtain⟨j,hj,rfl⟩:=List.getElem_of_mem ha
 exact h j _ (List.getElem?_eq_getElem hj)
theorem jQ.JK {a:AV} {v:Value} (h:jQ P w D a v):eL a:=by
 induction h with
 |int k n=>exact .int k n
 |bool b=>exact .bool b
 |str s=>exact .str s
 |bE=>exact .bE
 |gN=>exact .gN
 |je=>exact .je
 |jo=>exact .jo
 |AR a c h=>exact .sl [] (Nat.zero_le _) (fun cs h=>by cases h)
 |sl rows b o n c sz vs h1 h2 h3 h4 h5 h5' h6 _ ih=>
  exact .sl rows (by omega) fun cs dy a ha=>by
   obtain⟨i,hi,rfl⟩:=List.getElem_of_mem dy
   obtain⟨j,hj,rfl⟩:=List.getElem_of_mem ha
   exact ih i j _ _ (List.getElem?_eq_getElem hi) (List.getElem?_eq_getElem hj)
 |dq cs b o vs h1 Oh h2 _ ih=>exact .dq cs (oU ih)
 |agg cs vs f h1 h2 h3 _ ih=>exact .agg cs (oU ih)
 |fn f di vs g h1 h2 h3 _ ih=>exact .fn f di (oU ih)
theorem cL.JK {a:AV} {v:Value} (h:cL P w D ι a v):eL a:=by
 induction h with
 |eT a v h=>exact h.JK
 |own id off len o cap B=>exact .own _ _ _
 |ptr id i off B=>exact .ptr _ _ _
 |map id m B=>exact .map _ _
 |rF id c B=>exact .rF _
 |agg cs vs f h1 h2 h3 _ ih=>exact .agg cs (oU ih)
 |gE cs vs f h1 h2 _ ih=>exact .gE cs (oU ih)
 |fn f di vs g h1 h2 h3 _ ih=>exact .fn f di (oU ih)
 |ue f di vs g h1 h2 h3 _ ih=>exact .ue f di (oU ih)
end Go.Proofs.YtgoelphibofcmaaGreat.V

namespace Go.Proofs.YtgoelphibofcmaaGreat.V
open Go.RowKit
variable {P:Program} {w w':World} {D D':Nat->Prop} {ι ι':Names}
def cE (P:Program) (w:World) (D:Nat->Prop) (ι:Names) (env:Env) (a:Act):Prop:=∀t,cL P w D ι (env t) (a.tmps.getD t undef)
theorem rY {vs:List Value} {cs:List K} (h:vs.mapM G0=some cs):cs.length=vs.length/\∀(j:Nat) (c:K),cs[j]? =some c->vs[j]? =some c.val:=by
 induction vs generalizing cs with
 |nil=>simp at h;subst h;simp
 |cons v r ih=>
  simp only[List.mapM_cons,Option.bind_eq_bind,Option.bind_eq_some_iff]at h
  obtain⟨c,hc,pS,dy,h⟩:=h
  simp at h;subst h
  obtain⟨h1,h2⟩:=ih dy
  refine⟨by simp[h1],fun j d hd=>?_⟩
  cases j with
  |zero=>simp at hd ⊢;subst hd;exact zR hc
  |succ j=>simp at hd ⊢;exact h2 j d hd
theorem VE {vs:List Value} {cs:List K} (h:vs.mapM G0=some cs):cL P w D ι (.agg (cs.map K.av)) (.agg vs.toArray):=by
 obtain⟨h1,h2⟩:=rY h
 refine .agg _ _ (fun j=>vs.getD j undef) (by simp[h1]) (fun a ha=>?_) (fun j hj=>?_) (fun j a ha=>?_)
 ·obtain⟨c,_,rfl⟩:=List.mem_map.1 ha;exact c.mW
 ·simp at hj;simp[List.getElem?_eq_getElem (show j<vs.length by omega)]
 ·simp only[List.getElem?_map,Option.map_eq_some_iff]at ha
  obtain⟨c,hc,rfl⟩:=ha
  rw[List.getD_eq_getElem?_getD,h2 j c hc];exact w9 c
theorem dt {env:Env} {a:Act} {x:Operand} {y:O} (E:cE P w D ι env a) (h:cO P x=some y):cL P w D ι (dj env y) (a.eval x):=by
 unfold cO at h
 split at h
 ·simp at h;subst h;exact E _
 ·simp only[Option.map_eq_some_iff]at h
  obtain⟨cs,dy,rfl⟩:=h
  have:=VE (P:=P) (w:=w) (D:=D) (ι:=ι) dy
  simpa[Act.eval,dj]using this
 ·simp only[Option.map_eq_some_iff]at h
  obtain⟨c,hc,rfl⟩:=h
  simp only[Act.eval,dj]
  rw[zR hc];exact w9 c
 ·simp at h
 ·split at h
  ·rename_i hc
   simp at h;subst h
   simp only[Act.eval,dj]
   exact .fn _ _ _ (fun _=>undef) hc rfl (fun j hj=>by simp at hj) (fun j a h=>by simp at h)
  ·simp at h
def ot (P:Program) (a:Act) (o:Oper) (w:World) (D:Nat->Prop) (ι:Names) (v:AV):Prop:=∃u,(execOp a.eval o).run P w=.ok (.value u) w/\cL P w D ι v u
section
variable {g:Rows} {hs:Nat} {env:Env} {a:Act} {o:Oper} {id:Id} {v:AV}
theorem NK {x:Operand} {y:O} (E:cE P w D ι env a) (ho:o.op=.move x∨o.op=.assign x) (hx:cO P x=some y):ot P a o w D ι (dj env y):=by
 refine⟨a.eval x,?_,dt E hx⟩
 rcases ho with h|h<;>simp[execOp,h,go_sem]
theorem P9 {c x y:Operand} {c' x' y':O} (E:cE P w D ι env a) (ho:o.op=.pick c x y) (hc:cO P c=some c') (hx:cO P x=some x') (hy:cO P y=some y') (hv:dd (dj env c') (dj env x') (dj env y')=some v):ot P a o w D ι v:=by
 unfold dd at hv
 split at hv
 ·rename_i b hb
  simp at hv;subst hv
  have h1:=fm (hb▸dt E hc)
  refine⟨if b then a.eval x else a.eval y,by simp only[execOp,ho,h1,asBool];rfl,?_⟩
  cases b
  ·exact dt E hy
  ·exact dt E hx
 ·simp at hv
theorem Sz {op:BinOp} {x y:Operand} {x' y':O} {t yt:TypeId} (E:cE P w D ι env a) (ho:o.op=.binOp op t x y yt) (he:op≠.eql) (hn:op≠.neq) (hx:cO P x=some x') (hy:cO P y=some y') (hv:ef op (dj env x') (dj env y')=some v):ot P a o w D ι v:=by
 unfold ef at hv
 split at hv
 ·rename_i k n k' m hb s4
  split at hv
  ·rename_i hk
   subst hk
   have h1:=dz (hb▸dt E hx)
   have h2:=dz (s4▸dt E hy)
   have key:∀u,(binOp op t (.int k n) (.int k m)).run P w=.ok u w->(execOp a.eval o).run P w=.ok (.value u) w:=fun u hu=>by
    have e0:eqGuard op t x y (.int k n) (.int k m)=pure ():=by unfold eqGuard;cases op<;>rfl
    simp only[execOp,ho,h1,h2,e0]
    simp[go_sem,hu]
   cases op<;>simp only[dG]at hv<;>(try(simp at hv;done))<;>(try split at hv)<;>(try(simp at hv;done))<;>simp only[Option.some.injEq]at hv<;>subst hv<;>
    (refine⟨_,key _ (by simp only[binOp,ne_eq,not_true_eq_false,if_false,Op.intArith,Op.intDiv,Op.intBits,Op.intCmp, *];rfl),?_⟩)<;>
    first
     |exact .eT _ _ (.int _ _)
     |exact .eT _ _ (.bool _)
  ·simp at hv
 ·simp at hv
theorem PT {op:BinOp} {x y:Operand} {x' y':O} {t yt:TypeId} (E:cE P w D ι env a) (ho:o.op=.binOp op t x y yt) (he:op≠.eql) (hn:op≠.neq) (hx:cO P x=some x') (hy:cO P y=some y') (hv:de op (dj env x') (dj env y')=some v):ot P a o w D ι v:=by
 unfold de at hv
 split at hv
 ·rename_i n m hb s4
  have h1:=fI (hb▸dt E hx)
  have h2:=fI (s4▸dt E hy)
  cases op<;>simp only[ew]at hv<;>(try(simp at hv;done))
  case add=>
   split at hv
   ·rename_i hl
    simp only[Option.some.injEq]at hv;subst hv
    exact⟨_,by simp only[execOp,ho,h1,h2];simp[eqGuard,binOp,go_sem];exact hl,.eT _ _ (.str _)⟩
   ·simp at hv
  all_goals
   simp only[Option.some.injEq]at hv;subst hv
   exact⟨_,by simp only[execOp,ho,h1,h2];simp[eqGuard,binOp,Op.stringOp,go_sem],.eT _ _ (.bool _)⟩
 ·simp at hv
theorem F6 (n m:ByteArray):(n.toList==m.toList)=decide (n=m):=by
 rw[ByteArray.toList_eq,ByteArray.toList_eq]
 by_cases h:n=m
 ·subst h;simp
 ·have:n.data.toList≠m.data.toList:=fun he=>h (ByteArray.ext (Array.ext' he))
  rw[decide_eq_false h];exact beq_eq_false_iff_ne.2 this
theorem pI {t:TypeId} (h:fB P t=some .tB):P.underlying t=some .bool:=by unfold fB at h;split at h<;>simp_all
theorem pJ {t:TypeId} (h:fB P t=some .tI):∃k,P.underlying t=some (.int k):=by unfold fB at h;split at h<;>simp_all
theorem pK {t:TypeId} (h:fB P t=some .tS):P.underlying t=some .string:=by unfold fB at h;split at h<;>simp_all
theorem sg {d:Nat} {t:TypeId} {s:TS} {x y:AV} {u u':Value} {b:Bool} (hx:cL P w D ι x u) (hy:cL P w D ι y u') (hv:fW s x y=some b) (ht:fB P t=some s):(Op.equalIn (d+1) t u u').run P w=.ok b w:=by
 unfold fW at hv
 split at hv
 ·rename_i k n k' m
  split at hv
  ·rename_i hk
   subst hk
   simp at hv;subst hv
   obtain⟨q,hq⟩:=pJ ht
   rw[dz hx,dz hy,run_equalIn_int _ _ _ _ _ _ _ hq];rfl
  ·simp at hv
 ·simp at hv;subst hv
  rw[fm hx,fm hy,run_equalIn_bool' _ _ _ _ _ (pI ht)]
 ·simp at hv;subst hv
  rw[fI hx,fI hy,run_equalIn_string _ _ _ _ _ (pK ht),F6]
 ·simp at hv
def fy (P:Program) (w:World) (D:Nat->Prop) (ι:Names) (xs:List AV) (vs:Array Value):Prop:=vs.size=xs.length/\∀(j:Nat) (a:AV),xs[j]? =some a->∃u,vs[j]? =some u/\cL P w D ι a u
theorem fy.part {xs:List AV} {vs:Array Value} (h:fy P w D ι xs vs) (off n:Nat) (hn:off+n<=xs.length):fy P w D ι ((xs.drop off).take n) (vs.extract off (off+n)):=by
 refine⟨by simp[h.1];omega,fun j a ha=>?_⟩
 rw[List.getElem?_take]at ha
 split at ha
 ·rename_i hj
  rw[List.getElem?_drop]at ha
  obtain⟨u,h1,h2⟩:=h.2 _ _ ha
  refine⟨u,?_,h2⟩
  rw[Array.getElem?_extract]
  rw[if_pos (by rw[h.1];omega),h1]
 ·simp at ha
theorem rI:∀{ts:List TS} {xs ys:List AV} {b:Bool},fe ts xs ys=some b->xs.length=ts.length/\ys.length=ts.length
 |[],[],[],_,_=>⟨rfl,rfl⟩
 |t::ts,x::xs,y::ys,b,h=>by
  unfold fe at h
  split at h
  ·rename_i c d h1 h2
   have:=rI h2
   simp[this.1,this.2]
  ·simp at h
 |[],[],_::_,_,h=>by simp[fe]at h
 |[],_::_,_,_,h=>by simp[fe]at h
 |_::_,[],_,_,h=>by simp[fe]at h
 |_::_,_::_,[],_,h=>by simp[fe]at h
theorem Fw:∀{ts us:List TS} {xs ys:List AV} {b:Bool},fe (ts++us) xs ys=some b->∃c d,fe ts (xs.take ts.length) (ys.take ts.length)=some c/\fe us (xs.drop ts.length) (ys.drop ts.length)=some d/\b=(c&&d)
 |[],us,xs,ys,b,h=>⟨true,b,by simp[fe],by simpa using h,by simp⟩
 |t::ts,us,x::xs,y::ys,b,h=>by
  simp only[List.cons_append]at h
  unfold fe at h
  split at h
  ·rename_i c d h1 h2
   obtain⟨c',d',h3,h4,rfl⟩:=Fw h2
   simp at h;subst h
   exact⟨c&&c',d',by simp[fe,h1,h3],by simpa using h4,by simp[Bool.and_assoc]⟩
  ·simp at h
 |t::ts,us,[],ys,b,h=>by simp[fe]at h
 |t::ts,us,x::xs,[],b,h=>by simp[fe]at h
theorem mC {t:TypeId} {vs:Array Value} {off:Nat} {u:Value} (ha:nS P t=some false) (hu:vs[off]? =some u):(Go.part t vs off).run P w=.ok u w:=by
 unfold nS at ha
 have hi:(isAgg t).run P w=.ok false w:=by
  split at ha<;>simp at ha
  rename_i d h1 h2 hd
  simp only[isAgg,Sem.run_bind,run_underlying hd,Result.andThen_ok]
  cases d<;>simp_all
 simp[Go.part,hi,hu]
theorem tx {t:TypeId} {b:Bool} (ha:nS P t=some b):(isAgg t).run P w=.ok b w:=by
 unfold nS at ha
 split at ha<;>simp at ha<;>subst ha<;>rename_i hd<;>simp only[isAgg,Sem.run_bind,run_underlying hd,Result.andThen_ok]<;>(try simp)
theorem run_sizeOf {t:TypeId} {n:Nat} (h:eA P t=some n):(sizeOf t).run P w=.ok n w:=by
 unfold eA at h
 simp only[Option.map_eq_some_iff]at h
 obtain⟨i,hi,rfl⟩:=h
 simp[sizeOf,typeInfo,hi]
theorem pH {t:TypeId} {vs:Array Value} {off n:Nat} (ha:nS P t=some true) (hn:eA P t=some n):(Go.part t vs off).run P w=.ok (.agg (vs.extract off (off+n))) w:=by
 simp[Go.part,tx ha,run_sizeOf hn]
theorem I6 (d off:Nat):eP P (d+1) off []=some []:=rfl
theorem yv (d off:Nat) (f:Field) (r:List Field):eP P (d+1) off (f::r)=(if f.offset=off/\f.name≠ "_" then
   match fB P f.type with
   |some t=>if nS P f.type=some false then(eP P (d+1) (off+1) r).map (t::·)else none
   |none=>match P.underlying f.type with
    |some (.struct fs)=>if !P.stoodInHeld f.type then match eP P d 0 fs.toList with
     |some ts=>if eA P f.type=some ts.length/\ts≠[]then(eP P (d+1) (off+ts.length) r).map (ts++·)else none
     |none=>none else none
    |_=>none
  else none):=rfl
theorem sf:∀(d:Nat) (fs:List Field) (off:Nat) (ts:List TS),eP P d off fs=some ts->∀(N:Nat) (_:d<=N) (xs ys:List AV) (vs us:Array Value) (b:Bool),fy P w D ι xs vs->fy P w D ι ys us->
  fe ts ((xs.drop off).take ts.length) ((ys.drop off).take ts.length)=some b->(Op.eqFields (N+1) vs us fs).run P w=.ok b w:=by
 intro d
 induction d with
 |zero=>
  intro fs off ts hf N _ xs ys vs us b _ _ he
  cases fs with
  |nil=>simp[eP]at hf;subst hf;simp[fe]at he;subst he;simp[Op.eqFields]
  |cons f r=>simp[eP]at hf
 |succ d ihd=>
  intro fs
  induction fs with
  |nil=>
   intro off ts hf N _ xs ys vs us b _ _ he
   rw[I6]at hf;simp at hf;subst hf;simp[fe]at he;subst he;simp[Op.eqFields]
  |cons f r ih=>
   intro off ts hf N hN xs ys vs us b hx hy he
   rw[yv]at hf
   split at hf
   ·rename_i hcond
    obtain⟨ho,gP⟩:=hcond
    split at hf
    ·rename_i s hs
     split at hf
     ·rename_i uU
      simp only[Option.map_eq_some_iff]at hf
      obtain⟨NI,hr,rfl⟩:=hf
      obtain⟨l1,l2⟩:=rI he
      simp only[List.length_cons,List.length_take,List.length_drop]at l1 l2
      have H7:off<xs.length:=by omega
      have hyo:off<ys.length:=by omega
      rw[List.drop_eq_getElem_cons H7,List.drop_eq_getElem_cons hyo,List.length_cons,List.take_succ_cons,List.take_succ_cons]at he
      unfold fe at he
      split at he
      ·rename_i c d' h1 h2
       simp at he;subst he
       obtain⟨u,hu,ru⟩:=hx.2 off _ (List.getElem?_eq_getElem H7)
       obtain⟨u',FL,ru'⟩:=hy.2 off _ (List.getElem?_eq_getElem hyo)
       have:=ih (off+1) NI hr N hN xs ys vs us d' hx hy h2
       simp only[Op.eqFields,if_pos gP,Sem.run_bind,ho,mC uU hu,mC uU FL,Result.andThen_ok,sg ru ru' h1 hs,Sem.run_ite]
       cases c<;>simp[this]
      ·simp at he
     ·simp at hf
    ·split at hf
     ·rename_i fs' rL
      split at hf
      ·rename_i dK
       split at hf
       ·rename_i ts1 hts1
        split at hf
        ·rename_i fA
         simp only[Option.map_eq_some_iff]at hf
         obtain⟨NI,hr,rfl⟩:=hf
         obtain⟨c,d',h1,h2,rfl⟩:=Fw he
         obtain⟨l1,l2⟩:=rI he
         simp only[List.length_append,List.length_take,List.length_drop]at l1 l2
         have uU:nS P f.type=some true:=by simp[nS,rL]
         have kz:0<ts1.length:=List.length_pos_iff.2 fA.2
         have JB:off+ts1.length<=xs.length:=by omega
         have TC:off+ts1.length<=ys.length:=by omega
         rw[List.drop_take,List.drop_drop,List.drop_take,List.drop_drop]at h2
         rw[List.take_take,List.take_take]at h1
         simp only[List.length_append]at h1 h2
         rw[Nat.min_eq_left (by omega)]at h1
         have e2:ts1.length+NI.length-ts1.length=NI.length:=by omega
         rw[e2]at h2
         have:=ih (off+ts1.length) NI hr N hN xs ys vs us d' hx hy h2
         have fh:=ihd fs'.toList 0 ts1 hts1 (N-1) (by omega) _ _ _ _ c (hx.part off ts1.length JB) (hy.part off ts1.length TC) (by simpa[List.take_take]using h1)
         have hN':N-1+1=N:=by omega
         rw[hN']at fh
         have Nf:P.fieldsOf f.type=fs':=by simp[Program.fieldsOf,rL]
         simp only[Op.eqFields,if_pos gP,Sem.run_bind,ho,pH uU fA.1,Result.andThen_ok,Sem.run_ite]
         rw[run_equalIn_struct w N f.type _ _ (by rw[Nf];exact rL) (by simpa using dK),Nf,fh]
         cases c<;>simp[this]
        ·simp at hf
       ·simp at hf
      ·simp at hf
     ·simp at hf
   ·simp at hf
theorem SD {x y:Operand} {x' y':O} {t yt:TypeId} {neg:Bool} {s:TS} {b:Bool} (E:cE P w D ι env a) (ho:o.op=.binOp (if neg then .neq else .eql) t x y yt) (hs:fB P t=some s) (hx:cO P x=some x') (hy:cO P y=some y')
  (hv:fW s (dj env x') (dj env y')=some b):ot P a o w D ι (.bool (dw neg b)):=by
 have rx:=dt E hx
 have ry:=dt E hy
 refine⟨.bool (dw neg b),?_,.eT _ _ (.bool _)⟩
 have e0:(eqGuard (if neg then .neq else .eql) t x y (a.eval x) (a.eval y)).run P w=.ok () w:=by
  unfold fW at hv
  split at hv
  ·rename_i k n k' m h1 h2
   rw[h1]at rx;rw[h2]at ry
   rw[dz rx,dz ry];unfold eqGuard;cases neg<;>simp
  ·rename_i n m h1 h2
   rw[h1]at rx;rw[h2]at ry
   rw[fm rx,fm ry];unfold eqGuard;cases neg<;>simp
  ·rename_i n m h1 h2
   rw[h1]at rx;rw[h2]at ry
   rw[fI rx,fI ry];unfold eqGuard;cases neg<;>simp
  ·simp at hv
 have e1:(binOp (if neg then .neq else .eql) t (a.eval x) (a.eval y)).run P w=.ok (.bool (dw neg b)) w:=by
  have q:=sg (d:=9999) rx ry hv hs
  unfold fW at hv
  split at hv
  ·rename_i k n k' m h1 h2
   split at hv
   ·rename_i hk
    subst hk
    simp at hv;subst hv
    rw[h1]at rx;rw[h2]at ry
    rw[dz rx,dz ry]
    cases neg<;>simp only[binOp,ne_eq,not_true_eq_false,if_false,Op.intCmp,dw,if_true,Bool.false_eq_true]<;>simp[bne]<;>rfl
   ·simp at hv
  ·rename_i n m h1 h2
   rw[h1]at rx;rw[h2]at ry
   rw[fm rx,fm ry]at q ⊢
   cases neg<;>simp only[binOp,dw,if_true,Bool.false_eq_true,if_false,Sem.run_bind]<;>simp[Op.equal,Op.maxDepth,q]
  ·rename_i n m h1 h2
   simp at hv;subst hv
   rw[h1]at rx;rw[h2]at ry
   rw[fI rx,fI ry]
   cases neg<;>simp[binOp,Op.stringOp,dw,F6]
  ·simp at hv
 simp only[execOp,ho,Sem.run_bind,e0,e1,Result.andThen_ok,Sem.run_pure]
theorem SB {x y:Operand} {x' y':O} {t yt:TypeId} {neg:Bool} {ts:List TS} {fs:Array Field} {xs ys:List AV} {b:Bool} (E:cE P w D ι env a) (ho:o.op=.binOp (if neg then .neq else .eql) t x y yt) (rL:P.underlying t=some (.struct fs)) (dK:P.stoodInHeld t=false) (LN:P.eqGuardType P.depth t=false)
  (xV:eP P 4 0 fs.toList=some ts) (hx:cO P x=some x') (hy:cO P y=some y') (h1:dj env x'=.agg xs) (h2:dj env y'=.agg ys)
  (hv:fe ts xs ys=some b):ot P a o w D ι (.bool (dw neg b)):=by
 obtain⟨vs,f,rx,n1,_,f1,r1⟩:=iV (h1▸dt E hx)
 obtain⟨us,f',ry,n2,_,f2,r2⟩:=iV (h2▸dt E hy)
 refine⟨.bool (dw neg b),?_,.eT _ _ (.bool _)⟩
 obtain⟨l1,l2⟩:=rI hv
 have L:∀(xs:List AV) (vs:Array Value) (f:Nat->Value),vs.size=xs.length->(∀j,j<xs.length->vs[j]? =some (f j))->(∀j a,xs[j]? =some a->cL P w D ι a (f j))->fy P w D ι xs vs:=fun xs vs f h1 h2 h3=>
  ⟨h1,fun j a ha=>⟨f j,h2 j (List.getElem?_eq_some_iff.1 ha).1,h3 j a ha⟩⟩
 have q:=sf (w:=w) 4 fs.toList 0 ts xV 9998 (by omega) xs ys vs us b (L _ _ _ n1 f1 r1) (L _ _ _ n2 f2 r2) (by simpa[List.take_of_length_le,l1,l2]using hv)
 have Nf:P.fieldsOf t=fs:=by simp[Program.fieldsOf,rL]
 have q2:(Op.equal t (.agg vs) (.agg us)).run P w=.ok b w:=by
  unfold Op.equal
  rw[show Op.maxDepth=9999+1 from rfl,run_equalIn_struct w 9999 t _ _ (by rw[Nf];exact rL) dK,Nf,q]
 simp only[execOp,ho,Sem.run_bind,rx,ry,run_eqGuard_agg w _ _ _ _ _ _ LN,Result.andThen_ok]
 cases neg<;>simp[binOp,q2,dw]
theorem PW {x:Operand} {x':O} {t yt e:TypeId} {neg:Bool} {b:Bool} (E:cE P w D ι env a) (ho:o.op=.binOp (if neg then .neq else .eql) t x (.const (.slice none 0 0)) yt) (ht:P.underlying t=some (.slice e)) (hx:cO P x=some x')
  (hv:dc (dj env x')=some b):ot P a o w D ι (.bool (dw neg b)):=by
 have hr:=dt E hx
 have rx:∃A n c,a.eval x=.slice A n c/\b=A.isNone:=by
  unfold dc at hv
  split at hv<;>simp at hv<;>subst hv<;>rename_i hh
  ·rw[hh]at hr;exact⟨_,_,_,kj hr,rfl⟩
  ·rw[hh]at hr;obtain⟨o,cap,B,h,_⟩:=iW hr
   exact⟨_,_,_,h,rfl⟩
  ·rw[hh]at hr
   obtain⟨A,c,h',_,_,h⟩:=xc hr
   rcases h with h|⟨b,o,sz,vs,rfl,_⟩
   ·simp at h
   ·exact⟨_,_,_,h',rfl⟩
 refine⟨.bool (dw neg b),?_,.eT _ _ (.bool _)⟩
 obtain⟨A,n,c,h,rfl⟩:=rx
 have hq:(Op.equal t (.slice A n c) (.slice none 0 0)).run P w=.ok A.isNone w:=by
  unfold Op.equal
  rw[show Op.maxDepth=9999+1 from rfl,Op.equalIn]
  simp only[Sem.run_bind,run_underlying ht,Result.andThen_ok]
  cases A<;>rfl
 have hc:a.eval (.const (.slice none 0 0))=.slice none 0 0:=rfl
 simp only[execOp,ho,h,hc]
 cases neg<;>simp only[Bool.false_eq_true,if_false,if_true,Bool.not_true,Bool.not_false,eqGuard,binOp,dw,Sem.run_bind,hq,Result.andThen_ok,Sem.run_pure]
theorem SC {x:Operand} {x':O} {t yt e:TypeId} {neg:Bool} {b:Bool} (E:cE P w D ι env a) (ho:o.op=.binOp (if neg then .neq else .eql) t x (.const (.pointer none)) yt) (ht:P.underlying t=some (.pointer e)) (hx:cO P x=some x')
  (hv:KQ (dj env x')=some b):ot P a o w D ι (.bool (dw neg b)):=by
 have hr:=dt E hx
 have rx:∃A,a.eval x=.pointer A/\b=A.isNone:=by
  unfold KQ at hv
  split at hv<;>simp at hv<;>subst hv<;>rename_i hh
  ·rw[hh]at hr;exact⟨_,Ke hr,rfl⟩
  ·rw[hh]at hr;obtain⟨B,h,_⟩:=iJ hr
   exact⟨_,h,rfl⟩
  ·rw[hh]at hr;obtain⟨_,_,_,h,_⟩:=lf hr
   exact⟨_,h,rfl⟩
 refine⟨.bool (dw neg b),?_,.eT _ _ (.bool _)⟩
 obtain⟨A,h,rfl⟩:=rx
 have hq:(Op.equal t (.pointer A) (.pointer none)).run P w=.ok A.isNone w:=by
  unfold Op.equal
  rw[show Op.maxDepth=9999+1 from rfl,Op.equalIn]
  simp only[Sem.run_bind,run_underlying ht,Result.andThen_ok]
  cases A<;>rfl
 have hc:a.eval (.const (.pointer none))=.pointer none:=rfl
 simp only[execOp,ho,h,hc]
 cases neg<;>simp only[Bool.false_eq_true,if_false,if_true,Bool.not_true,Bool.not_false,eqGuard,binOp,dw,Sem.run_bind,hq,Result.andThen_ok,Sem.run_pure]
theorem PV {x:Operand} {x':O} {t yt:TypeId} {p r:Array TypeId} {va:Bool} {neg:Bool} {b:Bool} (E:cE P w D ι env a) (ho:o.op=.binOp (if neg then .neq else .eql) t x (.const .nilFunc) yt) (ht:P.underlying t=some (.func p r va)) (hx:cO P x=some x')
  (hv:db (dj env x')=some b):ot P a o w D ι (.bool (dw neg b)):=by
 have hr:=dt E hx
 have rx:a.eval x=.nilFunc/\b=true∨∃f c,a.eval x=.func f #[] c/\b=false:=by
  unfold db at hv
  split at hv<;>simp at hv<;>subst hv<;>rename_i hh
  ·rw[hh]at hr;exact .inl ⟨xb hr,rfl⟩
  ·rw[hh]at hr;obtain⟨vs,g,h,_⟩:=Af hr
   exact .inr ⟨_,_,h,rfl⟩
 refine⟨.bool (dw neg b),?_,.eT _ _ (.bool _)⟩
 have hc:a.eval (.const .nilFunc)=.nilFunc:=rfl
 rcases rx with⟨h,rfl⟩|⟨f,c,h,rfl⟩
 ·have hq:(Op.equal t .nilFunc .nilFunc).run P w=.ok true w:=by
   unfold Op.equal
   rw[show Op.maxDepth=9999+1 from rfl,Op.equalIn]
   simp only[Sem.run_bind,run_underlying ht,Result.andThen_ok]
   rfl
  simp only[execOp,ho,h,hc]
  cases neg<;>simp only[Bool.false_eq_true,if_false,if_true,Bool.not_true,Bool.not_false,eqGuard,binOp,dw,Sem.run_bind,hq,Result.andThen_ok,Sem.run_pure]
 ·have hq:(Op.equal t (.func f #[] c) .nilFunc).run P w=.ok false w:=by
   unfold Op.equal
   rw[show Op.maxDepth=9999+1 from rfl,Op.equalIn]
   simp only[Sem.run_bind,run_underlying ht,Result.andThen_ok]
   rfl
  simp only[execOp,ho,h,hc]
  cases neg<;>simp only[Bool.false_eq_true,if_false,if_true,Bool.not_true,Bool.not_false,eqGuard,binOp,dw,Sem.run_bind,hq,Result.andThen_ok,Sem.run_pure]
theorem SG {x:Operand} {x':O} {t:TypeId} (E:cE P w D ι env a) (ho:o.op=.unOp .not t x) (hx:cO P x=some x') (hv:eo (dj env x')=some v):ot P a o w D ι v:=by
 have hr:=dt E hx
 unfold eo at hv
 split at hv
 ·rename_i b hb
  simp at hv;subst hv
  rw[hb]at hr
  exact⟨_,by simp only[execOp,ho,fm hr];rfl,.eT _ _ (.bool _)⟩
 ·simp at hv
theorem SF {x:Operand} {x':O} {t:TypeId} (E:cE P w D ι env a) (ho:o.op=.unOp .neg t x) (hx:cO P x=some x') (hv:ej (dj env x')=some v):ot P a o w D ι v:=by
 have hr:=dt E hx
 unfold ej at hv
 split at hv
 ·rename_i k n hb
  simp at hv;subst hv
  rw[hb]at hr
  refine⟨_,by simp only[execOp,ho,dz hr];rfl,?_⟩
  rw[Int.zero_sub];exact .eT _ _ (.int _ _)
 ·simp at hv
theorem PU {x:Operand} {x':O} {s d:TypeId} {k q:IntKind} (E:cE P w D ι env a) (ho:o.op=.convert s d x) (hs:P.underlying s=some (.int q)) (hd:P.underlying d=some (.int k)) (hx:cO P x=some x') (hv:cR k (dj env x')=some v):ot P a o w D ι v:=by
 have hr:=dt E hx
 unfold cR at hv
 split at hv
 ·rename_i k' n hb
  simp at hv;subst hv
  rw[hb]at hr
  refine⟨.int k (k.wrap n),?_,.eT _ _ (.int _ _)⟩
  simp only[execOp,ho,dz hr,convert,Sem.run_bind,run_underlying hs,run_underlying hd,Result.andThen_ok,Conv.intToInt,Sem.run_pure]
 ·simp at hv
theorem MV {x:Operand} {x':O} {s:TypeId} {i:Nat} {fs:Array Field} {f:Field} {m:Nat} (E:cE P w D ι env a) (ho:o.op=.fieldAddr s x i) (hs:P.underlying s=some (.struct fs)) (hf:fs[i]? =some f) (hm:eA P f.type=some (m+1)) (hx:cO P x=some x')
  (hv:Fe f.offset (dj env x')=some v):ot P a o w D ι v:=by
 have hr:=dt E hx
 have go:∀b oo,a.eval x=.pointer (some ⟨b,oo,none⟩)->(execOp a.eval o).run P w=.ok (.value (.pointer (some ⟨b,oo+f.offset,none⟩))) w:=fun b oo h=>by
  simp only[execOp,ho,h,Instr.fieldAt,Sem.run_bind,run_underlying hs,Result.andThen_ok,hf,Instr.sureAddr,Sem.run_pure,fieldPlace,run_sizeOf hm,Nat.add_eq_zero_iff,Nat.one_ne_zero,and_false,if_false,Addr.add]
  split
  ·rename_i h0;simp[h0]
  ·rfl
 unfold Fe at hv
 split at hv
 ·rename_i j5 i' oo hb
  simp at hv;subst hv
  rw[hb]at hr
  obtain⟨B,h,hB,hk⟩:=iJ hr
  refine⟨_,go _ _ h,?_⟩
  rw[Nat.add_assoc]
  exact .ptr _ _ _ _ hB hk
 ·rename_i cs hb
  simp at hv;subst hv
  rw[hb]at hr
  obtain⟨b,oo,vs,h,h1,h2,h3,h4⟩:=lf hr
  refine⟨_,go _ _ h,.eT _ _ (.dq _ _ _ (fun j=>vs (f.offset+j)) h1 (fun a ha=>h2 a (List.mem_of_mem_drop ha)) (fun j hj=>?_) (fun j a ha=>h4 _ _ (by simpa using ha)))⟩
  rw[Nat.add_assoc]
  exact h3 _ (by simp at hj;omega)
 ·simp at hv
theorem MX {x:Operand} {x':O} {s:TypeId} {i n:Nat} {ag:Bool} {fs:Array Field} {f:Field} (E:cE P w D ι env a) (ho:o.op=.field s x i) (hs:P.underlying s=some (.struct fs)) (hf:fs[i]? =some f) (uU:nS P f.type=some ag) (hm:eA P f.type=some n) (hx:cO P x=some x')
  (hv:bW ag f.offset n (dj env x')=some v):ot P a o w D ι v:=by
 have hr:=dt E hx
 unfold bW at hv
 split at hv
 ·rename_i cs hb
  split at hv
  ·rename_i hl
   rw[hb]at hr
   obtain⟨vs,g,h,n1,fl,f1,r1⟩:=iV hr
   unfold part at hv
   cases ag with
   |true=>
    simp only[if_true]at hv
    split at hv
    ·simp at hv;subst hv
     refine⟨.agg (vs.extract f.offset (f.offset+n)),?_,.agg _ _ (fun j=>g (f.offset+j)) (by simp[n1];omega) (fun a ha=>fl a (List.mem_of_mem_drop (List.mem_of_mem_take ha))) (fun j hj=>?_) (fun j a ha=>?_)⟩
     ·simp only[execOp,ho,h,Instr.field,Sem.run_bind,run_underlying hs,Result.andThen_ok,hf,asAgg,Sem.run_pure,pH uU hm]
     ·simp at hj
      rw[Array.getElem?_extract,if_pos (by omega)];exact f1 _ (by omega)
     ·rw[List.getElem?_take]at ha
      split at ha
      ·exact r1 _ _ (by simpa using ha)
      ·simp at ha
    ·simp at hv
   |false=>
    simp only[Bool.false_eq_true,if_false]at hv
    have nV:cs[f.offset]? =some v:=by simpa[List.head?_drop]using hv
    have dZ:=(List.getElem?_eq_some_iff.1 nV).1
    exact⟨g f.offset,by simp only[execOp,ho,h,Instr.field,Sem.run_bind,run_underlying hs,Result.andThen_ok,hf,asAgg,Sem.run_pure,mC uU (f1 _ dZ)],r1 _ _ nV⟩
  ·simp at hv
 ·simp at hv
theorem SH {left:Bool} {x y:Operand} {x' y':O} {t yt:TypeId} (E:cE P w D ι env a) (ho:o.op=.binOp (if left then .shl else .shr) t x y yt) (hx:cO P x=some x') (hy:cO P y=some y') (hv:ik left (dj env x') (dj env y')=some v):ot P a o w D ι v:=by
 unfold ik at hv
 split at hv
 ·rename_i k n k' m hb s4
  split at hv
  ·simp at hv
  ·rename_i hm
   simp at hv;subst hv
   have h1:=dz (hb▸dt E hx)
   have h2:=dz (s4▸dt E hy)
   refine⟨_,?_,.eT _ _ (.int _ _)⟩
   simp only[execOp,ho,h1,h2]
   cases left<;>simp only[Bool.false_eq_true,if_false,if_true,eqGuard,Bool.not_true,Bool.not_false,binOp,Op.shift,hm,Sem.run_bind,Sem.run_pure,Result.andThen_ok]<;>rfl
 ·simp at hv
end
end Go.Proofs.YtgoelphibofcmaaGreat.V

namespace Go.Proofs.YtgoelphibofcmaaGreat.V
open Go.RowKit
variable {P:Program} {w w':World} {D D':Nat->Prop} {ι ι':Names}
theorem kn (b o j:Nat):(⟨b,o,none⟩:Addr).add j=⟨b,o+j,none⟩:=by unfold Addr.add;split<;>simp_all
section
variable {g:Rows} {hs:Nat} {env:Env} {a:Act} {o:Oper} {id:Id} {v:AV}
theorem kJ {t:TypeId} {ag:Bool} {n b oo:Nat} {cs:List AV} {v:AV} {f:Nat->Value} (uU:nS P t=some ag) (hn:eA P t=some n) (hp:part ag n cs=some v) (fl:∀a∈cs,a.cell=true)
  (hc:∀j,j<cs.length->w.cell? ⟨b,oo+j,none⟩=some (f j)) (hr:∀j a,cs[j]? =some a->cL P w D ι a (f j)):∃u,(loadVar t ⟨b,oo,none⟩).run P w=.ok u w/\cL P w D ι v u:=by
 unfold part at hp
 cases ag with
 |true=>
  simp only[if_true]at hp
  split at hp
  ·rename_i hl
   simp at hp;subst hp
   refine⟨.agg ((List.range n).map f).toArray,?_,.agg _ _ f (by simp;omega) (fun a ha=>fl a (List.mem_of_mem_take ha)) (fun j hj=>?_) (fun j a ha=>?_)⟩
   ·simp only[loadVar,Sem.run_bind,tx uU,Result.andThen_ok,if_true,run_sizeOf hn,Sem.run_pure]
    rw[run_loadCells w _ n f (fun j hj=>by rw[kn];exact hc j (by omega))]
    rfl
   ·simp at hj
    have:j<n:=by omega
    simp[this]
   ·rw[List.getElem?_take]at ha
    split at ha
    ·exact hr _ _ ha
    ·simp at ha
  ·simp at hp
 |false=>
  simp only[Bool.false_eq_true,if_false]at hp
  cases cs with
  |nil=>simp at hp
  |cons c r=>
   simp at hp;subst hp
   refine⟨f 0,?_,hr 0 _ rfl⟩
   simp only[loadVar,Sem.run_bind,tx uU,Result.andThen_ok,Bool.false_eq_true,if_false]
   have:=hc 0 (by simp)
   simp at this
   rw[run_load,this]
theorem Kp {S:gF P hs D ι g w} {i:Nat} {cs:List AV} (h:rowAt g id i=some cs) (hk:∀B,ι id=some B->B.k=none):∃B r,g id=some r/\ι id=some B/\lE P w D ι B r/\r.rows[i]? =some cs/\(∀a∈cs,a.cell=true)/\∃f:Nat->Value,∀j,j<cs.length->w.cell? ⟨B.b,i*B.sz+j,none⟩=some (f j)/\∀a,cs[j]? =some a->cL P w D ι a (f j):=by
 unfold rowAt at h
 simp only[Option.bind_eq_some_iff]at h
 obtain⟨r,hr,hi⟩:=h
 obtain⟨B,hB,R,_,_⟩:=S.row id r hr
 replace R:=R.row (hk B hB)
 refine⟨B,r,hr,hB,R,hi,R.flat cs (List.mem_of_getElem? hi),fun j=>(w.cell? ⟨B.b,i*B.sz+j,none⟩).getD undef,fun j hj=>?_⟩
 obtain⟨u,hu,xU⟩:=R.at_ i j cs _ hi (List.getElem?_eq_getElem hj)
 rw[R.sz,hu]
 refine⟨by simp only[hu,Option.getD_some],fun a ha=>?_⟩
 rw[List.getElem?_eq_getElem hj]at ha
 injection ha with ha
 subst ha
 simpa only[hu,Option.getD_some]using xU
theorem P4 {x:Operand} {x':O} {t:TypeId} {ag:Bool} {n:Nat} (S:gF P hs D ι g w) (E:cE P w D ι env a) (ho:o.op=.load t x) (uU:nS P t=some ag) (hn:eA P t=some n) (hx:cO P x=some x') (hv:ld g ag n (dj env x')=some v):ot P a o w D ι v:=by
 have hr:=dt E hx
 have go:∀b oo u,a.eval x=.pointer (some ⟨b,oo,none⟩)->(loadVar t ⟨b,oo,none⟩).run P w=.ok u w->(execOp a.eval o).run P w=.ok (.value u) w:=fun b oo u h h2=>by
  simp only[execOp,ho,h,Instr.loadAt,Instr.sureAddr,Sem.run_bind,Sem.run_pure,Result.andThen_ok,h2]
 unfold ld at hv
 split at hv
 ·rename_i j5 i' oo hb
  rw[hb]at hr
  obtain⟨B,h,hB,hk⟩:=iJ hr
  simp only[Option.bind_eq_some_iff]at hv
  obtain⟨cs,dy,hp⟩:=hv
  obtain⟨B',r,HZ,dH,R,hi,fl,f,hf⟩:=Kp (S:=S) dy (fun B2 h2=>by rw[hB]at h2;injection h2 with h2;subst h2;exact hk)
  rw[hB]at dH;injection dH with dH;subst dH
  obtain⟨u,h1,h2⟩:=kJ (w:=w) (b:=B.b) (oo:=i'*B.sz+oo) (f:=fun j=>f (oo+j)) uU hn hp (fun a ha=>fl a (List.mem_of_mem_drop ha)) (fun j hj=>by
   rw[Nat.add_assoc];exact(hf _ (by simp at hj;omega)).1) (fun j a ha=>by
   simp at ha;exact(hf _ ((List.getElem?_eq_some_iff.1 ha).1)).2 _ ha)
  exact⟨u,go _ _ _ h h1,h2⟩
 ·rename_i cs hb
  rw[hb]at hr
  obtain⟨b,oo,vs,h,h1,h2,h3,h4⟩:=lf hr
  obtain⟨u,k1,k2⟩:=kJ (w:=w) (b:=b) (oo:=oo) (f:=vs) uU hn hv h2 h3 (fun j a ha=>.eT _ _ (h4 j a ha))
  exact⟨u,go _ _ _ h k1,k2⟩
 ·simp at hv
theorem SA {x:Operand} {x':O} (E:cE P w D ι env a) (ho:o.op=.nilCheck x) (hx:cO P x=some x') (hv:eh (dj env x')=some v):ot P a o w D ι v:=by
 have hr:=dt E hx
 unfold eh at hv
 split at hv
 ·rename_i j5 i' oo hb
  simp at hv;subst hv
  rw[hb]at hr
  obtain⟨B,h,hB,hk⟩:=iJ hr
  exact⟨_,by simp only[execOp,ho,h];rfl,.ptr _ _ _ _ hB hk⟩
 ·rename_i cs hb
  simp at hv;subst hv
  rw[hb]at hr
  obtain⟨b,oo,vs,h,_⟩:=lf hr
  exact⟨_,by simp only[execOp,ho,h];rfl,h▸hr⟩
 ·simp at hv
theorem MY {x i:Operand} {x' i':O} {t e:TypeId} {m:Nat} (S:gF P hs D ι g w) (E:cE P w D ι env a) (ho:o.op=.indexAddr t x i) (ht:P.underlying t=some (.slice e)) (hm:eA P e=some (m+1)) (hx:cO P x=some x') (hi:cO P i=some i')
  (hv:b4 g (m+1) (dj env x') (dj env i')=some v):ot P a o w D ι v:=by
 have hr:=dt E hx
 have D9:=dt E hi
 have go:∀b oo n c k (q:Int),a.eval x=.slice (some ⟨b,oo,none⟩) n c->a.eval i=.int k q->0<=q->q<n->(execOp a.eval o).run P w=.ok (.value (.pointer (some ⟨b,oo+q.toNat*(m+1),none⟩))) w:=fun b oo n c k q h h2 h3 h4=>by
  simp only[execOp,ho,h,h2,Instr.indexAt,asIntOf,Sem.run_bind,Sem.run_pure,run_underlying ht,Result.andThen_ok,h3,h4,and_self,if_true,run_sizeOf hm,kn]
 unfold b4 at hv
 split at hv
 ·rename_i rows k q hb s4
  split at hv
  ·rename_i hq
   simp only[Option.bind_eq_some_iff]at hv
   obtain⟨cs,dy,hv⟩:=hv
   split at hv
   ·rename_i hlen
    simp at hv;subst hv
    rw[hb]at hr;rw[s4]at D9
    have dZ:=(List.getElem?_eq_some_iff.1 dy).1
    obtain⟨A,c,h,h1,h2,h3⟩:=xc hr
    rcases h3 with h3|⟨b,oo,sz,vs,rfl,hD,hl,fl,hc,hi⟩
    ·subst h3;simp at dy
    have fA:sz=m+1:=by rw[<-hlen,hl cs (List.mem_of_getElem? dy)]
    refine⟨_,go b oo _ _ k q h (dz D9) hq (by omega),.eT _ _ (.dq cs b _ (vs q.toNat) hD (fl cs (List.mem_of_getElem? dy)) (fun j hj=>?_) (fun j a ha=>hi _ _ _ _ dy ha))⟩
    have:=hc q.toNat j dZ (by rw[<-hl cs (List.mem_of_getElem? dy)];exact hj)
    rw[fA]at this
    rw[Nat.add_assoc];exact this
   ·simp at hv
  ·simp at hv
 ·rename_i j5 off len k q hb s4
  split at hv
  ·rename_i hq
   simp only[Option.bind_eq_some_iff]at hv
   obtain⟨r,HZ,hv⟩:=hv
   split at hv
   ·rename_i yG
    simp at hv;subst hv
    rw[hb]at hr;rw[s4]at D9
    obtain⟨oo,cap,B,h,hB,h1,h2,h3,h4,hk⟩:=iW hr
    obtain⟨B',dH,R,_,_⟩:=S.row _ _ HZ
    rw[hB]at dH;injection dH with dH;subst dH
    replace R:=R.row hk
    have fA:B.sz=m+1:=R.sz.trans yG
    refine⟨_,go _ _ _ _ k q h (dz D9) hq.1 hq.2,?_⟩
    have CT:oo=off*B.sz:=by rcases h2 with h2|h2<;>omega
    have:oo+q.toNat*(m+1)=(off+q.toNat)*B.sz+0:=by rw[CT,<-fA,Nat.add_mul];rfl
    rw[this]
    exact .ptr _ _ _ _ hB hk
   ·simp at hv
  ·simp at hv
 ·simp at hv
theorem PX {x i:Operand} {x' i':O} {t e:TypeId} {m len:Nat} (E:cE P w D ι env a) (ho:o.op=.indexAddr t x i) (ht:P.underlying t=some (.array len e)) (hm:eA P e=some (m+1)) (hx:cO P x=some x') (hi:cO P i=some i')
  (hv:cU len (m+1) (dj env x') (dj env i')=some v):ot P a o w D ι v:=by
 have hr:=dt E hx
 have D9:=dt E hi
 have go:∀b oo k (q:Int),a.eval x=.pointer (some ⟨b,oo,none⟩)->a.eval i=.int k q->0<=q->q<len->(execOp a.eval o).run P w=.ok (.value (.pointer (some ⟨b,oo+q.toNat*(m+1),none⟩))) w:=fun b oo k q h h2 h3 h4=>by
  simp only[execOp,ho,h,h2,Instr.indexAt,asIntOf,Sem.run_bind,Sem.run_pure,run_underlying ht,Instr.sureAddr,Result.andThen_ok,h3,h4,and_self,if_true,run_sizeOf hm,kn]
 unfold cU at hv
 split at hv
 ·rename_i j5 r oo k q hb s4
  split at hv
  ·rename_i hq
   simp at hv;subst hv
   rw[hb]at hr;rw[s4]at D9
   obtain⟨B,h,hB,hk⟩:=iJ hr
   refine⟨_,go _ _ k q h (dz D9) hq.1 hq.2,?_⟩
   rw[Nat.add_assoc]
   exact .ptr _ _ _ _ hB hk
  ·simp at hv
 ·rename_i cs k q hb s4
  split at hv
  ·rename_i hq
   simp at hv;subst hv
   rw[hb]at hr;rw[s4]at D9
   obtain⟨b,oo,vs,h,h1,h2,h3,h4⟩:=lf hr
   refine⟨_,go _ _ k q h (dz D9) hq.1 hq.2,.eT _ _ (.dq _ _ _ (fun j=>vs (q.toNat*(m+1)+j)) h1 (fun a ha=>h2 a (List.mem_of_mem_drop ha)) (fun j hj=>?_) (fun j a ha=>h4 _ _ (by simpa using ha)))⟩
   rw[Nat.add_assoc]
   exact h3 _ (by simp at hj;omega)
  ·simp at hv
 ·simp at hv
theorem PZ {x i:Operand} {x' i':O} {t:TypeId} (E:cE P w D ι env a) (ho:o.op=.index t x i) (ht:P.underlying t=some .string) (hx:cO P x=some x') (hi:cO P i=some i')
  (hv:cW (dj env x') (dj env i')=some v):ot P a o w D ι v:=by
 have hr:=dt E hx
 have D9:=dt E hi
 unfold cW at hv
 split at hv
 ·rename_i s k q hb s4
  split at hv
  ·rename_i hq
   simp only[Option.map_eq_some_iff]at hv
   obtain⟨c,hc,rfl⟩:=hv
   rw[hb]at hr;rw[s4]at D9
   refine⟨_,?_,.eT _ _ (.int _ _)⟩
   simp only[execOp,ho,fI hr,dz D9,Instr.index,asIntOf,Sem.run_bind,Sem.run_pure,run_underlying ht,Result.andThen_ok,hq,if_true,hc]
  ·simp at hv
 ·simp at hv
theorem PY {x i:Operand} {x' i':O} {t e:TypeId} {ag:Bool} {len n:Nat} (E:cE P w D ι env a) (ho:o.op=.index t x i) (ht:P.underlying t=some (.array len e)) (uU:nS P e=some ag) (hn:eA P e=some n) (hx:cO P x=some x') (hi:cO P i=some i')
  (hv:cV ag len n (dj env x') (dj env i')=some v):ot P a o w D ι v:=by
 have hr:=dt E hx
 have D9:=dt E hi
 unfold cV at hv
 split at hv
 ·rename_i cs k q hb s4
  split at hv
  ·rename_i hq
   rw[hb]at hr;rw[s4]at D9
   obtain⟨vs,f,h,n1,fl,f1,r1⟩:=iV hr
   have go:∀u,(Go.part e vs (q.toNat*n)).run P w=.ok u w->(execOp a.eval o).run P w=.ok (.value u) w:=fun u hu=>by
    simp only[execOp,ho,h,dz D9,Instr.index,asIntOf,Sem.run_bind,Sem.run_pure,run_underlying ht,Result.andThen_ok,hq,and_self,if_true,run_sizeOf hn,hu]
   unfold part at hv
   cases ag with
   |true=>
    simp only[if_true]at hv
    split at hv
    ·rename_i hl
     simp at hv;subst hv
     simp only[List.length_drop]at hl
     by_cases H3:n=0
     ·subst H3
      refine⟨_,go _ (pH uU hn),.agg _ _ (fun _=>undef) (by simp) (fun a ha=>by simp at ha) (fun j hj=>by simp at hj) (fun j a ha=>by simp at ha)⟩
     refine⟨_,go _ (pH uU hn),.agg _ _ (fun j=>f (q.toNat*n+j)) (by simp[n1];omega) (fun a ha=>fl a (List.mem_of_mem_drop (List.mem_of_mem_take ha))) (fun j hj=>?_) (fun j a ha=>?_)⟩
     ·simp at hj
      rw[Array.getElem?_extract,if_pos (by omega)];exact f1 _ (by omega)
     ·rw[List.getElem?_take]at ha
      split at ha
      ·exact r1 _ _ (by simpa using ha)
      ·simp at ha
    ·simp at hv
   |false=>
    simp only[Bool.false_eq_true,if_false]at hv
    have nV:cs[q.toNat*n]? =some v:=by simpa[List.head?_drop]using hv
    have dZ:=(List.getElem?_eq_some_iff.1 nV).1
    exact⟨_,go _ (mC uU (f1 _ dZ)),r1 _ _ nV⟩
  ·simp at hv
 ·simp at hv
theorem HU {x:Operand} {x':O} {i:Nat} (E:cE P w D ι env a) (ho:o.op=.extract x i) (hx:cO P x=some x') (hv:aV i (dj env x')=some v):ot P a o w D ι v:=by
 have hr:=dt E hx
 unfold aV at hv
 split at hv
 ·rename_i vs hb
  rw[hb]at hr
  obtain⟨us,f,h,h1,h2,h3⟩:=vd hr
  have dZ:=(List.getElem?_eq_some_iff.1 hv).1
  exact⟨_,by simp only[execOp,ho,h,Instr.extract,h2 _ dZ];rfl,h3 _ _ hv⟩
 ·simp at hv
theorem SE {x:Operand} {x':O} {t:TypeId} {e:TypeId} {n:Nat} (E:cE P w D ι env a) (ho:o.op=.call {callee:=.builtin .len,args:= #[x],argTypes:= #[t]}) (ht:P.underlying t=some (.slice e)) (hx:cO P x=some x') (hv:ei (dj env x')=some n):ot P a o w D ι (.int .i64 n):=by
 have hr:=dt E hx
 have go:∀A c,a.eval x=.slice A n c->(execOp a.eval o).run P w=.ok (.value (.int .i64 n)) w:=fun A c h=>by
  simp only[execOp,ho,resolve,Sem.run_bind,Sem.run_pure,Result.andThen_ok,invoke,builtin,Array.map,h]
  simp[Builtin.len_,run_underlying ht,goInt,h]
 refine⟨.int .i64 n,?_,.eT _ _ (.int _ _)⟩
 unfold ei at hv
 split at hv<;>simp at hv<;>subst hv<;>rename_i hb<;>rw[hb]at hr
 ·exact go _ _ (kj hr)
 ·obtain⟨A,c,h,_⟩:=xc hr;exact go _ _ h
 ·obtain⟨oo,cap,B,h,_⟩:=iW hr;exact go _ _ h
theorem P3 {x:Operand} {x':O} {t:TypeId} (E:cE P w D ι env a) (ho:o.op=.call {callee:=.builtin .len,args:= #[x],argTypes:= #[t]}) (ht:P.underlying t=some .string) (hx:cO P x=some x') (hv:cZ (dj env x')=some v):ot P a o w D ι v:=by
 have hr:=dt E hx
 unfold cZ at hv
 split at hv
 ·rename_i s hb
  simp at hv;subst hv
  rw[hb]at hr
  have h:=fI hr
  refine⟨_,?_,.eT _ _ (.int _ _)⟩
  simp only[execOp,ho,resolve,Sem.run_bind,Sem.run_pure,Result.andThen_ok,invoke,builtin,Array.map,h]
  simp[Builtin.len_,run_underlying ht,goInt,h]
 ·simp at hv
theorem nq {isS:Bool} {len cap h l:Nat} {lo hi:Option Operand} {Ny qZ:Option O} (E:cE P w D ι env a) (kq:rD P lo=some Ny) (CY:rD P hi=some qZ) (hh:dU len (qZ.map (dj env))=some h) (hl:dV h (Ny.map (dj env))=some l) (hc:len<=cap):
  (Instr.sliceBounds isS len cap (lo.map a.eval) (hi.map a.eval) none).run P w=.ok (l,h,cap) w/\l<=h/\h<=len:=by
 have bound:∀(x:Operand) (y:O) (k:IntKind) (n:Int) (m:Nat) (c:BoundsCode),cO P x=some y->dj env y=.int k n->0<=n->n<=m->(Instr.sliceBound (a.eval x) m c).run P w=.ok n.toNat w:=fun x y k n m c hx hy h0 h1=>by
  have hr:=dt E hx
  rw[hy]at hr
  simp only[Instr.sliceBound,dz hr,asIntOf,Sem.run_bind,Sem.run_pure,Result.andThen_ok,h0,h1,and_self,if_true]
 have H:h<=len/\((hi=none/\h=len)∨∃x,hi=some x/\∀c,(Instr.sliceBound (a.eval x) cap c).run P w=.ok h w):=by
  cases hi with
  |none=>
   simp[rD]at CY;subst CY
   simp[dU]at hh;subst hh
   exact⟨Nat.le_refl _,.inl ⟨rfl,rfl⟩⟩
  |some x=>
   simp only[rD,Option.map_eq_some_iff]at CY
   obtain⟨y,hy,rfl⟩:=CY
   simp only[Option.map_some,dU]at hh
   split at hh
   ·rename_i e;cases e
   ·rename_i k n e
    injection e with e
    split at hh
    ·rename_i hn
     simp at hh;subst hh
     exact⟨by omega,.inr ⟨x,rfl,fun c=>bound x y k n _ _ hy e hn.1 (by omega)⟩⟩
    ·simp at hh
   ·simp at hh
 have L:l<=h/\((lo=none/\l=0)∨∃x,lo=some x/\∀c,(Instr.sliceBound (a.eval x) h c).run P w=.ok l w):=by
  cases lo with
  |none=>
   simp[rD]at kq;subst kq
   simp[dV]at hl;subst hl
   exact⟨Nat.zero_le _,.inl ⟨rfl,rfl⟩⟩
  |some x=>
   simp only[rD,Option.map_eq_some_iff]at kq
   obtain⟨y,hy,rfl⟩:=kq
   simp only[Option.map_some,dV]at hl
   split at hl
   ·rename_i e;cases e
   ·rename_i k n e
    injection e with e
    split at hl
    ·rename_i hn
     simp at hl;subst hl
     exact⟨by omega,.inr ⟨x,rfl,fun c=>bound x y k n h _ hy e hn.1 hn.2⟩⟩
    ·simp at hl
   ·simp at hl
 refine⟨?_,L.1,H.1⟩
 unfold Instr.sliceBounds
 rcases H.2 with⟨rfl,rfl⟩|⟨x,rfl,hx⟩<;>rcases L.2 with⟨rfl,rfl⟩|⟨y,rfl,hy⟩<;>
  simp only[Option.map_none,Option.map_some,Sem.run_bind,Sem.run_pure,Result.andThen_ok, *]
theorem MZ {x:Operand} {x':O} {lo hi:Option Operand} {Ny qZ:Option O} {t e:TypeId} {m:Nat} (S:gF P hs D ι g w) (E:cE P w D ι env a) (ho:o.op=.slice t x lo hi none) (ht:P.underlying t=some (.slice e)) (hm:eA P e=some m) (hx:cO P x=some x') (kq:rD P lo=some Ny) (CY:rD P hi=some qZ)
  (hv:cj g m (dj env x') (Ny.map (dj env)) (qZ.map (dj env))=some v):ot P a o w D ι v:=by
 have hr:=dt E hx
 have go:∀A len cap l h,a.eval x=.slice A len cap->(Instr.sliceBounds true len cap (lo.map a.eval) (hi.map a.eval) none).run P w=.ok (l,h,cap) w->(execOp a.eval o).run P w=.ok (.value (.slice (if cap=l then A else A.map (·.add (l*m))) (h-l) (cap-l))) w:=fun A len cap l h h1 h2=>by
  simp only[execOp,ho,h1,Instr.sliceAt,Instr.slice,Sem.run_bind,Sem.run_pure,run_underlying ht,Result.andThen_ok,Option.map_none,h2,run_sizeOf hm]
 unfold cj at hv
 split at hv
 ·rename_i hb
  rw[hb]at hr
  simp only[Option.bind_eq_some_iff,Option.map_eq_some_iff]at hv
  obtain⟨h,hh,l,hl,rfl⟩:=hv
  obtain⟨q,q1,q2⟩:=nq (w:=w) (isS:=true) (cap:=0) E kq CY hh hl (Nat.le_refl _)
  have h0:h=0:=by omega
  have l0:l=0:=by omega
  subst h0;subst l0
  refine⟨_,go _ _ _ _ _ (kj hr) q,?_⟩
  simp;exact .eT _ _ .bE
 ·rename_i rows hb
  rw[hb]at hr
  simp only[Option.bind_eq_some_iff,Option.map_eq_some_iff]at hv
  obtain⟨h,hh,l,hl,hv⟩:=hv
  split at hv
  ·rename_i dC
   simp at hv;subst hv
   obtain⟨A,c,he,c1,c2,h3⟩:=xc hr
   obtain⟨q,q1,q2⟩:=nq (w:=w) (isS:=true) (cap:=c) E kq CY hh hl c1
   refine⟨_,go _ _ _ _ _ he q,.eT _ _ ?_⟩
   have hlen:((rows.drop l).take (h-l)).length=h-l:=by simp;omega
   by_cases hz:h-l=0
   ·have:(rows.drop l).take (h-l)=[]:=by rw[hz];simp
    rw[this,hz]
    exact .AR _ _ (by omega)
   ·rcases h3 with h3|⟨b,oo,sz,vs,rfl,hD,K9,fl,hc,hi⟩
    ·subst h3;simp at q2;omega
    rw[if_neg (by omega)]
    simp only[Option.map_some,kn]
    have BL:sz=m:=by
     have dZ:l<rows.length:=by omega
     have:=dC rows[l] (List.getElem_mem dZ)
     rw[<-this,K9 _ (List.getElem_mem dZ)]
    subst BL
    refine .sl _ b _ _ _ sz (fun i j=>vs (l+i) j) hlen (by omega) (by omega) hD (fun cs dy=>K9 cs (List.mem_of_mem_drop (List.mem_of_mem_take dy))) (fun cs dy=>fl cs (List.mem_of_mem_drop (List.mem_of_mem_take dy))) (fun i j hi hj=>?_) (fun i j cs a dy ha=>?_)
    ·rw[<-hc (l+i) j (by omega) hj,Nat.add_mul]
     congr 2;omega
    ·rw[List.getElem?_take]at dy
     split at dy
     ·exact hi _ _ _ _ (by simpa using dy) ha
     ·simp at dy
  ·simp at hv
 ·rename_i j5 off len hb
  rw[hb]at hr
  simp only[Option.bind_eq_some_iff,Option.map_eq_some_iff]at hv
  obtain⟨r,HZ,h,hh,l,hl,hv⟩:=hv
  split at hv
  ·rename_i yG
   simp at hv;subst hv
   obtain⟨oo,cap,B,he,hB,h1,h2,h3,h4,hk⟩:=iW hr
   obtain⟨B',dH,R,_,_⟩:=S.row _ _ HZ
   rw[hB]at dH;injection dH with dH;subst dH
   replace R:=R.row hk
   have fA:B.sz=m:=R.sz.trans yG
   obtain⟨q,q1,q2⟩:=nq (w:=w) (isS:=true) (cap:=cap) E kq CY hh hl h1
   refine⟨_,go _ _ _ _ _ he q,?_⟩
   have e1:(off+l+(cap-l))*B.sz<=B.C:=by rw[show off+l+(cap-l)=off+cap by omega];exact h3
   by_cases nf:cap=l
   ·rw[if_pos nf]
    exact .own _ _ _ _ _ B hB hk (by omega) (.inl (by omega)) e1 (by omega)
   ·rw[if_neg nf]
    simp only[Option.map_some,kn]
    have CT:oo=off*B.sz:=by rcases h2 with h2|h2<;>omega
    exact .own _ _ _ _ _ B hB hk (by omega) (.inr (by rw[CT,fA,Nat.add_mul])) e1 (by omega)
  ·simp at hv
 ·simp at hv
theorem KY {x:Operand} {x':O} {lo hi:Option Operand} {Ny qZ:Option O} {t:TypeId} (E:cE P w D ι env a) (ho:o.op=.slice t x lo hi none) (ht:P.underlying t=some .string) (hx:cO P x=some x') (kq:rD P lo=some Ny) (CY:rD P hi=some qZ)
  (hv:bl (dj env x') (Ny.map (dj env)) (qZ.map (dj env))=some v):ot P a o w D ι v:=by
 have hr:=dt E hx
 unfold bl at hv
 split at hv
 ·rename_i s hb
  rw[hb]at hr
  simp only[Option.bind_eq_some_iff,Option.map_eq_some_iff]at hv
  obtain⟨h,hh,l,hl,rfl⟩:=hv
  obtain⟨q,_,_⟩:=nq (w:=w) (isS:=false) E kq CY hh hl (Nat.le_refl _)
  refine⟨_,?_,.eT _ _ (.str _)⟩
  simp only[execOp,ho,fI hr,Instr.sliceAt,Instr.slice,Sem.run_bind,Sem.run_pure,run_underlying ht,Result.andThen_ok,Option.map_none,Option.isSome_none,Bool.false_eq_true,if_false,q]
 ·simp at hv
theorem EF {xs:List Operand} {ys:List O} (E:cE P w D ι env a) (h:xs.mapM (cO P)=some ys):(xs.map a.eval).length=ys.length/\∀j y,ys[j]? =some y->cL P w D ι (dj env y) ((xs.map a.eval).getD j undef):=by
 induction xs generalizing ys with
 |nil=>simp at h;subst h;simp
 |cons x r ih=>
  simp only[List.mapM_cons,Option.bind_eq_bind,Option.bind_eq_some_iff]at h
  obtain⟨c,hc,pS,dy,h⟩:=h
  simp at h;subst h
  obtain⟨h1,h2⟩:=ih dy
  refine⟨by simpa using h1,fun j d hd=>?_⟩
  cases j with
  |zero=>simp at hd ⊢;subst hd;exact dt E hc
  |succ j=>simp at hd ⊢;simpa using h2 j d hd
theorem P6 {f:Nat} {first di:Array Operand} {Be:List O} (E:cE P w D ι env a) (ho:o.op=.makeFunc (.func f) first di) (hf:first= #[]) (hc:fQ P f=true) (hx:di.toList.mapM (cO P)=some Be):ot P a o w D ι (.fn f (Be.map (dj env))):=by
 subst hf
 obtain⟨h1,h2⟩:=EF E hx
 refine⟨.func (.func f) #[] (di.map a.eval),by simp only[execOp,ho,Instr.makeFunc,Sem.run_bind,Sem.run_pure,Result.andThen_ok];simp,.fn _ _ _ (fun j=>(di.toList.map a.eval).getD j undef) hc (by simpa using h1) (fun j hj=>?_) (fun j x QF=>?_)⟩
 ·simp at hj h1
  have:j<di.size:=by omega
  simp[this]
 ·simp only[List.getElem?_map,Option.map_eq_some_iff]at QF
  obtain⟨y,hy,rfl⟩:=QF
  exact h2 j y hy
theorem P7 {f:Nat} {first di:Array Operand} {Be:List O} (E:cE P w D ι env a) (ho:o.op=.makeFunc (.func f) first di) (hf:di= #[]) (hc:fQ P f=true) (hx:first.toList.mapM (cO P)=some Be):ot P a o w D ι (.ue f (Be.map (dj env))):=by
 subst hf
 obtain⟨h1,h2⟩:=EF E hx
 refine⟨.func (.func f) (first.map a.eval) #[],by simp only[execOp,ho,Instr.makeFunc,Sem.run_bind,Sem.run_pure,Result.andThen_ok];simp,.ue _ _ _ (fun j=>(first.toList.map a.eval).getD j undef) hc (by simpa using h1) (fun j hj=>?_) (fun j x QF=>?_)⟩
 ·simp at hj h1
  have:j<first.size:=by omega
  simp[this]
 ·simp only[List.getElem?_map,Option.map_eq_some_iff]at QF
  obtain⟨y,hy,rfl⟩:=QF
  exact h2 j y hy
end
end Go.Proofs.YtgoelphibofcmaaGreat.V

namespace Go.Proofs.YtgoelphibofcmaaGreat.V
open Go.RowKit
variable {P:Program} {w w':World} {D D':Nat->Prop} {ι ι':Names}
def Mk (P:Program) (a:Act) (o:Oper) (w:World) (D:Nat->Prop) (ι:Names) (id:Id) (v:AV) (r:Row):Prop:=
 ∃u cells T,(execOp a.eval o).run P w=.ok (.value u) (w.alloc (.cells cells T))/\r.w=true/\r.rows.length*r.sz<=cells.size/\(∀cs∈r.rows,cs.length=r.sz)/\(∀cs∈r.rows,∀a∈cs,a.cell=true)/\
  (∀i j cs a,r.rows[i]? =some cs->cs[j]? =some a->∃x,cells[i*r.sz+j]? =some x/\cL P w D ι a x)/\∀ι':Names,ι' id=some ⟨w.heap.size,r.sz,cells.size,none⟩->cL P w D ι' v u
section
variable {g:Rows} {hs:Nat} {env:Env} {a:Act} {o:Oper} {id:Id} {v:AV}
theorem kL {vs:List Value} {cs:List K} (h:vs.mapM G0=some cs):fy P w D ι (cs.map K.av) vs.toArray:=by
 obtain⟨h1,h2⟩:=rY h
 refine⟨by simp[h1],fun j a ha=>?_⟩
 simp only[List.getElem?_map,Option.map_eq_some_iff]at ha
 obtain⟨c,hc,rfl⟩:=ha
 exact⟨c.val,by simpa using h2 j c hc,w9 c⟩
theorem j0 {t:TypeId} {z:List K} (h:jM P t=some z):∃i v,P.info? t=some i/\i.zero=some v/\v.cells.size=i.size/\v.cells.toList.mapM G0=some z/\z.length=i.size:=by
 unfold jM at h
 split at h
 ·rename_i i hi
  split at h
  ·rename_i v hv
   split at h
   ·rename_i hs
    exact⟨i,v,hi,hv,hs,h,by rw[(rY h).1];simpa using hs⟩
   ·simp at h
  ·simp at h
 ·simp at h
theorem FZ {cs:List AV} {cells:Array Value} (h:fy P w D ι cs cells):∀i j c a,[cs][i]? =some c->c[j]? =some a->∃x,cells[i*cs.length+j]? =some x/\cL P w D ι a x:=by
 intro i j c a hi hj
 cases i with
 |zero=>simp at hi;subst hi;simpa using h.2 j a hj
 |succ i=>simp at hi
theorem Sd {t:TypeId} {z:List K} (ho:o.op=.alloc t) (hz:jM P t=some z):Mk P a o w D ι id (.ptr id 0 0) ⟨true,z.length,[z.map K.av]⟩:=by
 obtain⟨i,v,hi,hv,hs,hm,hl⟩:=j0 hz
 have hk:=kL (P:=P) (w:=w) (D:=D) (ι:=ι) hm
 refine⟨.pointer (some ⟨w.heap.size,0,none⟩),v.cells,t,?_,rfl,?_,?_,?_,?_,?_⟩
 ·simp only[execOp,ho,Instr.alloc,zeroValue,typeInfo,Sem.run_bind]
  simp[hi,hv,newVar,newRow]
 ·simp[hl,hs]
 ·intro cs dy;simp at dy;subst dy;simp
 ·intro cs dy x hx;simp at dy;subst dy
  obtain⟨c,_,rfl⟩:=List.mem_map.1 hx;exact c.mW
 ·have:=FZ hk;simpa using this
 ·intro ι' hι
  have:=cL.ptr (P:=P) (w:=w) (D:=D) (ι:=ι') id 0 0 _ hι rfl
  simpa using this
theorem qU {x:AV} {u:Value} (h:cL P w D ι x u) (hc:x.cells.all AV.cell=true):fy P w D ι x.cells u.cells:=by
 obtain⟨h1,f,h2,h3⟩:=h.cells hc
 exact⟨h1,fun j a ha=>⟨f j,h2 j (List.getElem?_eq_some_iff.1 ha).1,h3 j a ha⟩⟩
theorem Sb {t:TypeId} {x:Operand} {x':O} {cs:List AV} (E:cE P w D ι env a) (ho:o.op=.box t x) (hx:cO P x=some x') (hb:cP (dj env x')=some cs):Mk P a o w D ι id (.ptr id 0 0) ⟨true,cs.length,[cs]⟩:=by
 have hr:=dt E hx
 unfold cP at hb
 split at hb
 ·rename_i dC
  simp at hb;subst hb
  have hk:=qU hr dC
  refine⟨.pointer (some ⟨w.heap.size,0,none⟩),(a.eval x).cells,t,?_,rfl,?_,?_,?_,?_,?_⟩
  ·simp only[execOp,ho,Instr.box,Sem.run_bind]
   simp[newVar,newRow]
  ·simp[hk.1]
  ·intro cs dy;simp at dy;subst dy;rfl
  ·intro cs dy y hy;simp at dy;subst dy
   exact List.all_eq_true.1 dC y hy
  ·exact FZ hk
  ·intro ι' hι
   have:=cL.ptr (P:=P) (w:=w) (D:=D) (ι:=ι') id 0 0 _ hι rfl
   simpa using this
 ·simp at hb
theorem foldl_set:∀(vs:List Value) (n off:Nat) (cells:Array Value),off+n+vs.length<=cells.size->((vs.zipIdx n).foldl (fun cs (x:Value×Nat)=>cs.setIfInBounds (off+x.2) x.1) cells).size=cells.size/\
  ∀k,((vs.zipIdx n).foldl (fun cs (x:Value×Nat)=>cs.setIfInBounds (off+x.2) x.1) cells)[k]? =if off+n<=k/\k<off+n+vs.length then vs[k-(off+n)]? else cells[k]?
 |[],n,off,cells,_=>⟨rfl,fun k=>by simp;intro h1 h2;omega⟩
 |v::r,n,off,cells,h=>by
  simp only[List.length_cons]at h
  obtain⟨h1,h2⟩:=foldl_set r (n+1) off (cells.setIfInBounds (off+n) v) (by simp;omega)
  simp only[List.zipIdx_cons,List.foldl_cons]
  refine⟨by rw[h1];simp,fun k=>?_⟩
  rw[h2 k]
  simp only[List.length_cons]
  by_cases hk:k=off+n
  ·subst hk
   rw[if_neg (by omega),if_pos (by omega)]
   simp[show off+n<cells.size by omega]
  ·by_cases wI:off+n<=k/\k<off+n+(r.length+1)
   ·rw[if_pos (by omega),if_pos wI]
    have:k-(off+n)=(k-(off+(n+1)))+1:=by omega
    rw[this,List.getElem?_cons_succ]
   ·rw[if_neg (by omega),if_neg wI,Array.getElem?_setIfInBounds_ne (by omega)]
theorem wg (place:Nat->Option (Nat×Nat)):∀(ps:List (Nat×Value)) (qs:List (Nat×Nat×AV)) (cells:Array Value) (cs res:List AV),fy P w D ι cs cells->(∀a∈cs,a.cell=true)->ps.length=qs.length->
  (∀(k:Nat) i u o' n x,ps[k]? =some (i,u)->qs[k]? =some (o',n,x)->place i=some (o',n)/\cL P w D ι x u)->cI cs qs=some res->∃jv,Instr.fill place cells ps=some jv/\fy P w D ι res jv/\(∀a∈res,a.cell=true)/\res.length=cs.length:=by
 intro ps
 induction ps with
 |nil=>
  intro qs cells cs res hR hf hl _ hv
  cases qs with
  |nil=>simp[cI]at hv;subst hv;exact⟨cells,rfl,hR,hf,rfl⟩
  |cons q r=>simp at hl
 |cons p ps ih=>
  intro qs cells cs res hR hf hl hp hv
  cases qs with
  |nil=>simp at hl
  |cons q qs=>
   obtain⟨i,u⟩:=p
   obtain⟨oo,n,x⟩:=q
   obtain⟨lS,hr⟩:=hp 0 i u oo n x rfl rfl
   unfold cI at hv
   split at hv
   ·rename_i hc
    obtain⟨c1,c2,c3⟩:=hc
    have hk:=qU hr c3
    have hus:u.cells.size=n:=by rw[hk.1,c1]
    have dy:cells.size=cs.length:=hR.1
    unfold Instr.fill
    simp only[lS]
    rw[if_neg (by rw[hus,dy];simp;omega)]
    obtain⟨s1,s2⟩:=foldl_set u.cells.toList 0 oo cells (by simp;omega)
    have e0:(u.cells.zipIdx.foldl (fun cs (x:Value×Nat)=>cs.setIfInBounds (oo+x.2) x.1) cells)=(u.cells.toList.zipIdx 0).foldl (fun cs (x:Value×Nat)=>cs.setIfInBounds (oo+x.2) x.1) cells:=by
     rw[<-Array.foldl_toList];simp
    have xR:=ih qs (u.cells.zipIdx.foldl (fun cs (x:Value×Nat)=>cs.setIfInBounds (oo+x.2) x.1) cells) (cs.take oo++x.cells++cs.drop (oo+n)) res ?_ ?_ (by simpa using hl) (fun k i u o' n x h1 h2=>hp (k+1) i u o' n x (by simpa using h1) (by simpa using h2)) hv
    ·obtain⟨jv,h1,h2,h3,h4⟩:=xR
     refine⟨jv,h1,h2,h3,?_⟩
     rw[h4];simp;omega
    ·rw[e0]
     refine⟨by rw[s1,dy];simp;omega,fun j a ha=>?_⟩
     rw[s2 j]
     simp only[Nat.add_zero,Array.length_toList]
     by_cases hj:oo<=j/\j<oo+u.cells.size
     ·rw[if_pos hj]
      rw[List.append_assoc,List.getElem?_append_right (by simp;omega),List.getElem?_append_left (by simp;omega)]at ha
      simp only[List.length_take]at ha
      rw[show min oo cs.length=oo by omega]at ha
      simpa using hk.2 _ _ ha
     ·rw[if_neg hj]
      by_cases U3:j<oo
      ·rw[List.append_assoc,List.getElem?_append_left (by simp;omega),List.getElem?_take,if_pos U3]at ha
       exact hR.2 _ _ ha
      ·rw[List.getElem?_append_right (by simp;omega)]at ha
       simp only[List.length_append,List.length_take,List.getElem?_drop]at ha
       rw[show oo+n+(j-(min oo cs.length+x.cells.length))=j by omega]at ha
       exact hR.2 _ _ ha
    ·intro b hb
     rcases List.mem_append.1 hb with hb|hb
     ·rcases List.mem_append.1 hb with hb|hb
      ·exact hf b (List.mem_of_mem_take hb)
      ·exact List.all_eq_true.1 c3 b hb
     ·exact hf b (List.mem_of_mem_drop hb)
   ·simp at hv
theorem xO {fs:List Field} (h:∀f∈fs,(P.info? f.type).isSome=true):∃Ab,fs.mapM (fun f=>(P.info? f.type).map fun i=>(f.offset,i.size))=some Ab/\∀(i:Nat) (f:Field) (n:Nat),fs[i]? =some f->eA P f.type=some n->Ab[i]? =some (f.offset,n):=by
 induction fs with
 |nil=>exact⟨[],rfl,fun i f n h=>by simp at h⟩
 |cons f r ih=>
  obtain⟨q,h1,h2⟩:=ih (fun x hx=>h x (List.mem_cons_of_mem _ hx))
  obtain⟨i,hi⟩:=Option.isSome_iff_exists.1 (h f (by simp))
  refine⟨(f.offset,i.size)::q,by simp[hi,h1],fun k x n hk hn=>?_⟩
  cases k with
  |zero=>simp at hk;subst hk;simp[eA,hi]at hn;subst hn;rfl
  |succ k=>simp at hk ⊢;exact h2 k x n hk hn
theorem qn {ps:List (Nat×Operand)} {l:List (Nat×O)} (E:cE P w D ι env a) (h:ps.mapM (fun(x:Nat×Operand)=>(cO P x.2).map (x.1,·))=some l):l.length=ps.length/\∀(k i:Nat) (y:O),l[k]? =some (i,y)->∃x,ps[k]? =some (i,x)/\cO P x=some y:=by
 induction ps generalizing l with
 |nil=>simp at h;subst h;simp
 |cons p r ih=>
  simp only[List.mapM_cons,Option.bind_eq_bind,Option.bind_eq_some_iff]at h
  obtain⟨c,hc,pS,dy,h⟩:=h
  simp at h;subst h
  obtain⟨h1,h2⟩:=ih dy
  simp only[Option.map_eq_some_iff]at hc
  obtain⟨y,hy,rfl⟩:=hc
  refine⟨by simp[h1],fun k i z hk=>?_⟩
  cases k with
  |zero=>simp at hk;obtain⟨rfl,rfl⟩:=hk;exact⟨p.2,rfl,hy⟩
  |succ k=>simp at hk ⊢;exact h2 k i z hk
theorem Dp {fs:Array Field} {l:List (Nat×O)} {q:List (Nat×Nat×O)} (h:sR P fs l=some q):q.length=l.length/\∀(k oo n:Nat) (y:O),q[k]? =some (oo,n,y)->∃(i:Nat) (f:Field),l[k]? =some (i,y)/\fs[i]? =some f/\f.offset=oo/\eA P f.type=some n:=by
 induction l generalizing q with
 |nil=>simp[sR]at h;subst h;simp
 |cons p r ih=>
  obtain⟨i,x⟩:=p
  unfold sR at h
  split at h
  ·rename_i f hf
   split at h
   ·rename_i n hn
    simp only[Option.map_eq_some_iff]at h
    obtain⟨q',LZ,rfl⟩:=h
    obtain⟨h1,h2⟩:=ih LZ
    refine⟨by simp[h1],fun k oo m y hk=>?_⟩
    cases k with
    |zero=>simp at hk;obtain⟨rfl,rfl,rfl⟩:=hk;exact⟨i,f,rfl,hf,rfl,hn⟩
    |succ k=>simp only[List.getElem?_cons_succ]at hk ⊢;exact h2 k oo m y hk
   ·simp at h
  ·simp at h
theorem fy.agg {xs:List AV} {vs:Array Value} (h:fy P w D ι xs vs) (hf:∀a∈xs,a.cell=true):cL P w D ι (.agg xs) (.agg vs):=
 .agg xs vs (fun j=>vs.getD j undef) h.1 hf (fun j hj=>by
  have:j<vs.size:=by rw[h.1];exact hj
  simp[this]) (fun j a ha=>by
  obtain⟨u,h1,h2⟩:=h.2 j a ha
  simpa[Array.getD_eq_getD_getElem?,h1]using h2)
theorem MU {t:TypeId} {ps:Array (Nat×Operand)} {fs:Array Field} {z:List K} {l:List (Nat×O)} {q:List (Nat×Nat×O)} {cs:List AV} (E:cE P w D ι env a) (ho:o.op=.build t ps) (ht:P.underlying t=some (.struct fs)) (hz:jM P t=some z) (hl:sV P ps=some l)
  (rL:∀f∈fs.toList,(P.info? f.type).isSome=true) (hq:sR P fs l=some q) (hv:cI (z.map K.av) (q.map fun(o,n,x)=>(o,n,dj env x))=some cs):ot P a o w D ι (.agg cs):=by
 obtain⟨it,zv,hi,qf,hs,hm,FO⟩:=j0 hz
 obtain⟨Ab,lS,Vp⟩:=xO rL
 have hk:=kL (P:=P) (w:=w) (D:=D) (ι:=ι) hm
 obtain⟨n1,r1⟩:=qn E hl
 obtain⟨n2,r2⟩:=Dp hq
 obtain⟨jv,h1,h2,h3,_⟩:=wg (P:=P) (w:=w) (D:=D) (ι:=ι) (Ab.toArray[·]?) (ps.toList.map fun(i,x)=>(i,a.eval x)) (q.map fun(o,n,x)=>(o,n,dj env x)) zv.cells _ cs (by simpa using hk)
  (fun b hb=>by obtain⟨c,_,rfl⟩:=List.mem_map.1 hb;exact c.mW) (by simp[n2,n1]) (fun k i u o' n x xC wI=>by
   simp only[List.getElem?_map,Option.map_eq_some_iff]at xC wI
   obtain⟨⟨i',x'⟩,hp,e1⟩:=xC
   obtain⟨⟨o2,n',y⟩,LZ,e2⟩:=wI
   simp only[Prod.mk.injEq]at e1 e2
   obtain⟨rfl,rfl⟩:=e1
   obtain⟨rfl,rfl,rfl⟩:=e2
   obtain⟨i2,f,Jm,hf,rfl,hn⟩:=r2 _ _ _ _ LZ
   obtain⟨x2,uE,hc⟩:=r1 _ _ _ Jm
   rw[hp]at uE
   simp only[Option.some.injEq,Prod.mk.injEq]at uE
   obtain⟨rfl,rfl⟩:=uE
   exact⟨by simpa using Vp _ _ _ (by simpa using hf) hn,dt E hc⟩) hv
 refine⟨.agg jv,?_,h2.agg h3⟩
 have hb:P.built t ((ps.map fun(i,x)=>(i,a.eval x)).toList)=some jv:=by
  unfold Program.built
  simp only[hi,ht,qf,lS]
  simpa using h1
 simp only[execOp,ho,Sem.run_bind,run_build w t _ _ hb,Result.andThen_ok,Sem.run_pure]
theorem KX {t e:TypeId} {len n:Nat} {ps:Array (Nat×Operand)} {z:List K} {l:List (Nat×O)} {cs:List AV} (E:cE P w D ι env a) (ho:o.op=.build t ps) (ht:P.underlying t=some (.array len e)) (hz:jM P t=some z) (hl:sV P ps=some l) (hn:eA P e=some n)
  (hv:cI (z.map K.av) ((l.map fun(x:Nat×O)=>(x.1*n,n,x.2)).map fun(o,n,x)=>(o,n,dj env x))=some cs):ot P a o w D ι (.agg cs):=by
 obtain⟨it,zv,hi,qf,hs,hm,FO⟩:=j0 hz
 have hk:=kL (P:=P) (w:=w) (D:=D) (ι:=ι) hm
 obtain⟨n1,r1⟩:=qn E hl
 obtain⟨ie,H0,fA⟩:∃ie,P.info? e=some ie/\ie.size=n:=by simpa[eA]using hn
 obtain⟨jv,h1,h2,h3,_⟩:=wg (P:=P) (w:=w) (D:=D) (ι:=ι) (fun i=>some (i*ie.size,ie.size)) (ps.toList.map fun(i,x)=>(i,a.eval x)) ((l.map fun(x:Nat×O)=>(x.1*n,n,x.2)).map fun(o,n,x)=>(o,n,dj env x)) zv.cells _ cs (by simpa using hk)
  (fun b hb=>by obtain⟨c,_,rfl⟩:=List.mem_map.1 hb;exact c.mW) (by simp[n1]) (fun k i u o' n' x xC wI=>by
   simp only[List.getElem?_map,Option.map_eq_some_iff]at xC wI
   obtain⟨⟨i',x'⟩,hp,e1⟩:=xC
   obtain⟨⟨o2,n2,y⟩,⟨⟨i2,y2⟩,Jm,e3⟩,e2⟩:=wI
   simp only[Prod.mk.injEq]at e1 e2 e3
   obtain⟨rfl,rfl⟩:=e1
   obtain⟨rfl,rfl,rfl⟩:=e2
   obtain⟨rfl,rfl,rfl⟩:=e3
   obtain⟨x2,uE,hc⟩:=r1 _ _ _ Jm
   rw[hp]at uE
   simp only[Option.some.injEq,Prod.mk.injEq]at uE
   obtain⟨rfl,rfl⟩:=uE
   exact⟨by rw[fA],dt E hc⟩) hv
 refine⟨.agg jv,?_,h2.agg h3⟩
 have hb:P.built t ((ps.map fun(i,x)=>(i,a.eval x)).toList)=some jv:=by
  unfold Program.built
  simp only[hi,ht,qf,H0]
  simpa using h1
 simp only[execOp,ho,Sem.run_bind,run_build w t _ _ hb,Result.andThen_ok,Sem.run_pure]
theorem we:∀(vs:List AV) (sz i:Nat) (rs:List (List AV)) (cs:List AV),0<sz->cs.length=(i+vs.length)*sz->rowsOf sz vs=some rs->
  cI cs ((vs.zipIdx i).map fun(v,j)=>(j*sz,sz,v))=some (cs.take (i*sz)++rs.flatten)/\rs.length=vs.length/\(∀c∈rs,c.length=sz)/\∀c∈rs,∀x∈c,x.cell=true
 |[],sz,i,rs,cs,_,hl,h=>by
  simp[rowsOf]at h;subst h
  simp at hl
  simp[cI,List.take_of_length_le (show cs.length<=i*sz by omega)]
 |v::r,sz,i,rs,cs,fA,hl,h=>by
  simp only[rowsOf,Option.bind_eq_some_iff,Option.map_eq_some_iff]at h
  obtain⟨c,hc,rs',yG,rfl⟩:=h
  unfold rowOf at hc
  split at hc
  ·rename_i zL
   simp at hc;subst hc
   obtain⟨mN,xP⟩:=zL
   simp only[List.length_cons]at hl
   have hmul:(i+(r.length+1))*sz=i*sz+sz+r.length*sz:=by rw[Nat.add_mul,Nat.add_mul];omega
   have ih:=we r sz (i+1) rs' (cs.take (i*sz)++v.cells++cs.drop (i*sz+sz)) fA (by
    simp[mN];rw[Nat.add_mul,Nat.add_mul];omega) yG
   refine⟨?_,by simp[ih.2.1],?_,?_⟩
   ·simp only[List.zipIdx_cons,List.map_cons,cI]
    rw[if_pos ⟨mN,by omega,xP⟩,ih.1]
    congr 1
    rw[List.flatten_cons,<-List.append_assoc]
    congr 1
    rw[Nat.add_mul,Nat.one_mul,List.take_append_of_le_length (by simp[mN];omega)]
    rw[List.take_of_length_le (by simp[mN];omega)]
   ·intro c' kV;rcases List.mem_cons.1 kV with rfl|kV
    ·exact mN
    ·exact ih.2.2.1 c' kV
   ·intro c' kV;rcases List.mem_cons.1 kV with rfl|kV
    ·exact List.all_eq_true.1 xP
    ·exact ih.2.2.2 c' kV
  ·simp at hc
theorem flat_get {α:Type} {oF:List (List α)} {sz:Nat} (h:∀cs∈oF,cs.length=sz) {i j:Nat} {cs:List α} {a:α} (hi:oF[i]? =some cs) (hj:cs[j]? =some a):oF.flatten[i*sz+j]? =some a:=by
 induction oF generalizing i with
 |nil=>simp at hi
 |cons c r ih=>
  have hc:c.length=sz:=h c (by simp)
  cases i with
  |zero=>
   simp at hi;subst hi
   have dZ:=(List.getElem?_eq_some_iff.1 hj).1
   rw[List.flatten_cons,List.getElem?_append_left (by omega)];simpa using hj
  |succ i=>
   rw[List.flatten_cons,List.getElem?_append_right (by rw[hc,Nat.succ_mul];omega)]
   have:(i+1)*sz+j-c.length=i*sz+j:=by rw[hc,Nat.succ_mul];omega
   rw[this]
   exact ih (fun cs dy=>h cs (List.mem_cons_of_mem _ dy)) (by simpa using hi)
theorem I5 {α:Type} {oF:List (List α)} {sz:Nat} (h:∀cs∈oF,cs.length=sz):oF.flatten.length=oF.length*sz:=by
 induction oF with
 |nil=>simp
 |cons c r ih=>
  rw[List.flatten_cons,List.length_append,h c (by simp),ih (fun cs dy=>h cs (List.mem_cons_of_mem _ dy)),List.length_cons,Nat.succ_mul];omega
theorem pk {zv:Value} {z:List K} {n:Nat} (hm:zv.cells.toList.mapM G0=some z) (kz:0<z.length):∀k,k<n->∃c,z[k % z.length]? =some c/\((Array.range n).map (zv.cells[· % zv.cells.size]!))[k]? =some c.val:=by
 intro k hk
 obtain⟨h1,h2⟩:=rY hm
 have fA:zv.cells.size=z.length:=by simpa using h1.symm
 have dZ:k % z.length<z.length:=Nat.mod_lt _ kz
 refine⟨z[k % z.length],List.getElem?_eq_getElem dZ,?_⟩
 have h3:=h2 _ _ (List.getElem?_eq_getElem dZ)
 simp only[Array.getElem?_toList]at h3
 have BJ:k % z.length<zv.cells.size:=by rw[fA];exact dZ
 rw[Array.getElem?_map,Array.getElem?_range,if_pos hk]
 simp only[Option.map_some]
 rw[fA,getElem!_pos zv.cells (k % z.length) BJ]
 rw[Array.getElem?_eq_getElem BJ]at h3
 exact h3
theorem JQ {t e:TypeId} {len sz:Nat} {ps:Array (Nat×Operand)} {z:List K} {l:List (Nat×O)} {rs:List (List AV)} (E:cE P w D ι env a) (ho:o.op=.buildSlice t len ps) (ht:P.underlying t=some (.slice e)) (fA:eA P e=some (sz+1)) (hz:jM P e=some z)
  (hl:sV P ps=some l) (H4:len*(sz+1)<=4096) (RL:l.map (·.1)=List.range len) (hv:rowsOf (sz+1) (l.map fun x=>dj env x.2)=some rs):Mk P a o w D ι id (.own id 0 len) ⟨true,sz+1,rs⟩:=by
 obtain⟨it,zv,hi,qf,hs,hm,FO⟩:=j0 hz
 have jJ:it.size=sz+1:=by simpa[eA,hi]using fA
 obtain⟨n1,r1⟩:=qn E hl
 have FE:l.length=len:=by have:=congrArg List.length RL;simpa using this
 by_cases h0:len=0
 ·subst h0
  have Nk:l=[]:=List.length_eq_zero_iff.1 FE
  subst Nk
  simp[rowsOf]at hv;subst hv
  have Tq:ps= #[]:=by
   apply Array.ext';apply List.eq_nil_of_length_eq_zero;rw[<-n1];rfl
  subst Tq
  refine⟨.slice (some ⟨w.heap.size,0,none⟩) 0 0, #[],e,?_,rfl,by simp,by simp,by simp,fun i j cs x hi=>by simp at hi,fun ι' hι=>?_⟩
  ·simp[execOp,ho,Instr.buildSlice,run_underlying ht,sizeOf,typeInfo,hi,Instr.fill,newRow,Array.range_zero']
  ·exact .own _ 0 0 0 0 _ hι rfl (Nat.le_refl _) (.inl rfl) (by simp) (by simp[maxLen])
 ·have yI:fy P w D ι ((List.range (len*(sz+1))).map fun k=>(z.getD (k % z.length) .bE).av) ((Array.range (len*(sz+1))).map (zv.cells[· % zv.cells.size]!)):=by
   refine⟨by simp,fun j x hx=>?_⟩
   simp only[List.getElem?_map,Option.map_eq_some_iff]at hx
   obtain⟨k,hk,rfl⟩:=hx
   have l6:=(List.getElem?_eq_some_iff.1 hk).1
   simp at l6
   rw[List.getElem?_range l6]at hk
   injection hk with hk
   subst hk
   obtain⟨c,hc,Qp⟩:=pk hm (by rw[FO,jJ];omega) j l6
   exact⟨c.val,Qp,by rw[List.getD_eq_getElem?_getD,hc];exact w9 c⟩
  obtain⟨f1,f2,f3,f4⟩:=we (l.map fun x=>dj env x.2) (sz+1) 0 rs ((List.range (len*(sz+1))).map fun k=>(z.getD (k % z.length) .bE).av) (by omega) (by simp[FE]) hv
  obtain⟨jv,h1,h2,h3,h4⟩:=wg (P:=P) (w:=w) (D:=D) (ι:=ι) (fun i=>some (i*it.size,it.size)) (ps.toList.map fun(i,x)=>(i,a.eval x)) _ _ _ _ yI
   (fun b hb=>by obtain⟨c,_,rfl⟩:=List.mem_map.1 hb;exact K.mW _) (by simp[n1]) (fun k i u o' n x xC wI=>by
   simp only[List.getElem?_map,Option.map_eq_some_iff]at xC wI
   obtain⟨⟨i',x'⟩,hp,e1⟩:=xC
   obtain⟨⟨v2,j2⟩,LZ,e2⟩:=wI
   simp only[Prod.mk.injEq]at e1 e2
   obtain⟨rfl,rfl⟩:=e1
   obtain⟨rfl,rfl,rfl⟩:=e2
   rw[List.getElem?_zipIdx]at LZ
   simp only[List.getElem?_map,Option.map_map,Option.map_eq_some_iff,Function.comp_apply,Prod.mk.injEq,Nat.zero_add]at LZ
   obtain⟨⟨i2,y⟩,Jm,rfl,rfl⟩:=LZ
   obtain⟨x2,uE,hc⟩:=r1 _ _ _ Jm
   rw[hp]at uE
   simp only[Option.some.injEq,Prod.mk.injEq]at uE
   obtain⟨rfl,rfl⟩:=uE
   have yC:(l.map (·.1))[k]? =some i':=by rw[List.getElem?_map,Jm];rfl
   have l6:=(List.getElem?_eq_some_iff.1 yC).1
   rw[RL]at yC
   simp at l6
   rw[List.getElem?_range (by omega)]at yC
   injection yC with yC
   subst yC
   exact⟨by rw[jJ],dt E hc⟩) f1
  simp only[Nat.zero_mul,List.take_zero,List.nil_append,List.length_map]at h2 h3 h4 f2
  have dy:jv.size=len*(sz+1):=by rw[h2.1,h4];simp
  refine⟨.slice (some ⟨w.heap.size,0,none⟩) len len,jv,e,?_,rfl,?_,f3,f4,fun i j cs x qZ hj=>h2.2 _ _ (flat_get f3 qZ hj),fun ι' hι=>?_⟩
  ·have gr:=run_buildSlice (P:=P) w t e len (ps.map fun(i,x)=>(i,a.eval x)) jv it zv ht hi qf (by rw[jJ];omega) (by rw[jJ];exact Nat.mul_ne_zero h0 (by omega)) (by rw[<-jJ]at h1;simpa using h1)
   simp only[execOp,ho,Sem.run_bind,gr,Result.andThen_ok,Sem.run_pure]
  ·dsimp only;rw[f2,FE,dy];exact Nat.le_refl _
  ·refine .own _ 0 len 0 len _ hι rfl (Nat.le_refl _) (.inr (by simp)) ?_ (by simp only[maxLen];have:=Nat.le_mul_of_pos_right len (show 0<sz+1 by omega);omega)
   dsimp only;rw[dy];simp
theorem Hb {t e:TypeId} {it:TypeInfo} {m:Nat} {z:List K} {l c:Operand} {l' c':O} {n:Nat} {r:Row} (E:cE P w D ι env a) (ho:o.op=.makeSlice t l c) (ht:P.underlying t=some (.slice e)) (fA:eA P e=some (m+1)) (hz:jM P e=some z) (LP:P.info? e=some it) (hby:it.bytes<=32768)
  (hl:cO P l=some l') (hc:cO P c=some c') (hv:ij z (dj env l') (dj env c')=some (n,r)):Mk P a o w D ι id (.own id 0 n) r:=by
 obtain⟨it',zv,hi,qf,hs,hm,FO⟩:=j0 hz
 rw[LP]at hi;injection hi with hi;subst hi
 have jJ:it.size=m+1:=by simpa[eA,LP]using fA
 unfold ij at hv
 split at hv
 ·rename_i k1 ln k2 cn e1 e2
  split at hv
  ·rename_i hb
   obtain⟨b1,b2,b3⟩:=hb
   simp at hv
   obtain⟨rfl,rfl⟩:=hv
   have r1:=dz (e1▸dt E hl)
   have r2:=dz (e2▸dt E hc)
   unfold dI at b3
   have Nc:(it.bytes:Int)*cn<=281474976710656:=by
    have h1:(it.bytes:Int)<=32768:=by omega
    have h2:(it.bytes:Int)*cn<=32768*16777216:=Int.mul_le_mul h1 (by omega) (by omega) (by omega)
    omega
   have gr:=run_make (P:=P) w t e it zv ht LP qf k1 k2 ln cn b1 b2 Nc (by omega)
   have kC:∀k,k<cn.toNat*it.size->∃x,z[k % z.length]? =some x/\(madeCells zv.cells (cn.toNat*it.size))[k]? =some x.val:=fun k hk=>pk hm (by rw[FO,jJ];omega) k hk
   refine⟨.slice (some ⟨w.heap.size,0,none⟩) ln.toNat cn.toNat,madeCells zv.cells (cn.toNat*it.size),e,by simp only[execOp,ho,r1,r2,Sem.run_bind,gr,Result.andThen_ok,Sem.run_pure],rfl,?_,?_,?_,?_,fun ι' hι=>?_⟩
   ·simp only[List.length_replicate,size_madeCells,FO]
    exact Nat.mul_le_mul_right _ (by omega)
   ·intro cs dy
    have:=List.eq_of_mem_replicate dy
    subst this;simp
   ·intro cs dy x hx
    have:=List.eq_of_mem_replicate dy
    subst this
    obtain⟨c,_,rfl⟩:=List.mem_map.1 hx;exact c.mW
   ·intro i j cs x qZ hj
    have kN:=(List.getElem?_eq_some_iff.1 qZ).1
    have:=List.eq_of_mem_replicate (List.mem_of_getElem? qZ)
    subst this
    simp only[List.length_replicate]at kN
    simp only[List.getElem?_map,Option.map_eq_some_iff]at hj
    obtain⟨q,hq,rfl⟩:=hj
    have iq:=(List.getElem?_eq_some_iff.1 hq).1
    dsimp only
    obtain⟨x,hx,uE⟩:=kC (i*z.length+j) (by
     rw[<-FO]
     calc i*z.length+j<i*z.length+z.length:=by omega
      _=(i+1)*z.length:=by rw[Nat.add_mul,Nat.one_mul]
      _<=cn.toNat*z.length:=Nat.mul_le_mul_right _ (by omega))
    rw[Nat.mul_comm i,Nat.mul_add_mod,Nat.mod_eq_of_lt iq,hq]at hx
    injection hx with hx;subst hx
    exact⟨_,by rw[Nat.mul_comm i]at uE ⊢;exact uE,w9 q⟩
   ·refine .own _ 0 _ 0 _ _ hι rfl (by omega) (.inr (by simp)) ?_ (by simp only[maxLen];omega)
    dsimp only;rw[size_madeCells,FO];simp
  ·simp at hv
 ·simp at hv
end
end Go.Proofs.YtgoelphibofcmaaGreat.V

namespace Go.Proofs.YtgoelphibofcmaaGreat.V
open Go.RowKit
variable {P:Program} {w w':World} {D D':Nat->Prop} {ι ι':Names}
def Fi (P:Program) (k:TypeId) (m:MK):Prop:=
 (∃s,m=⟨false,[s]⟩/\fB P k=some s)∨
 (∃fs ts,m=⟨true,ts⟩/\P.underlying k=some (.struct fs)/\eP P 4 0 fs.toList=some ts/\P.stoodInHeld k=false/\∀f∈fs.toList,(fB P f.type).isSome=true)
theorem rz {t:TypeId} {m:MK} {z:K} (h:sU P t=some (m,z)):∃k e i zv,P.underlying t=some (.map k e)/\P.info? e=some i/\i.zero=some zv/\G0 zv=some z/\Fi P k m:=by
 unfold sU at h
 split at h
 ·rename_i k e ht
  split at h
  ·rename_i zv s h1 h2 h3
   simp only[Option.map_eq_some_iff,Prod.mk.injEq]at h
   obtain⟨z',hz,rfl,rfl⟩:=h
   simp only[Option.bind_eq_some_iff]at h2
   obtain⟨i,hi,qf⟩:=h2
   exact⟨k,e,i,zv,ht,hi,qf,hz,.inl ⟨s,rfl,h3⟩⟩
  ·rename_i zv fs h1 h2 h3 h4
   split at h
   ·rename_i ts z' xV hz
    split at h
    ·rename_i hc
     simp only[Option.some.injEq,Prod.mk.injEq]at h
     obtain⟨rfl,rfl⟩:=h
     simp only[Option.bind_eq_some_iff]at h2
     obtain⟨i,hi,qf⟩:=h2
     simp only[Bool.not_eq_true',List.all_eq_true]at hc
     exact⟨k,e,i,zv,ht,hi,qf,hz,.inr ⟨fs,ts,rfl,h4,xV,hc.1,hc.2⟩⟩
    ·cases h
   ·cases h
  ·cases h
 ·cases h
theorem xe {t:TypeId} {s:TS} (ht:fB P t=some s) (em:Bool) (n:Nat) (v:Value):(Instr.checkKey em (n+1) t v).run P w=.ok () w:=by
 unfold Instr.checkKey
 cases s with
 |tB=>simp[run_underlying (pI ht)]
 |tS=>simp[run_underlying (pK ht)]
 |tI=>
  obtain⟨q,hq⟩:=pJ ht
  simp[run_underlying hq]
theorem xf (em:Bool) (n:Nat) (vs:Array Value):∀(d:Nat) (fs:List Field) (off:Nat) (ts:List TS),eP P (d+1) off fs=some ts->(∀f∈fs,(fB P f.type).isSome=true)->off+ts.length<=vs.size->
  Sem.run P (forIn fs PUnit.unit fun f (_:PUnit)=>if f.name≠ "_" then do
    let x <-Go.part f.type vs f.offset
    Instr.checkKey em (n+1) f.type x
    pure (ForInStep.yield PUnit.unit)
   else pure (ForInStep.yield PUnit.unit)) w=Result.ok PUnit.unit w
 |d,[],off,ts,_,_,_=>by simp
 |d,f::r,off,ts,hf,hs,hl=>by
  rw[yv]at hf
  split at hf
  ·rename_i hcond
   obtain⟨ho,gP⟩:=hcond
   split at hf
   ·rename_i s QC
    split at hf
    ·rename_i uU
     simp only[Option.map_eq_some_iff]at hf
     obtain⟨NI,hr,rfl⟩:=hf
     simp only[List.length_cons]at hl
     have ih:=xf em n vs d r (off+1) NI hr (fun f hf=>hs f (List.mem_cons_of_mem _ hf)) (by omega)
     have hu:vs[off]? =some vs[off]:=by simp
     simp only[List.forIn_cons,Sem.run_bind,if_pos gP,ho,mC uU hu,Result.andThen_ok,xe QC,Sem.run_pure]
     exact ih
    ·cases hf
   ·rename_i hn
    have:=hs f (by simp)
    rw[hn]at this;cases this
  ·cases hf
theorem EL {k:TypeId} {m:MK} (hk:Fi P k m) (em:Bool) (key:AV) (u:Value) (uU:key.isAgg=m.ka) (hlen:key.cells.length=m.ks) (hr:cL P w D ι key u):(Instr.checkKey em 10000 k u).run P w=.ok () w:=by
 rcases hk with⟨s,rfl,hs⟩|⟨fs,ts,rfl,rL,xV,dK,dC⟩
 ·exact xe hs em 9999 u
 ·cases key<;>simp[AV.isAgg]at uU
  rename_i cs
  obtain⟨vs,f,rfl,h1,_⟩:=iV hr
  unfold Instr.checkKey
  simp only[Sem.run_bind,run_underlying rL,Result.andThen_ok]
  rw[<-Array.forIn_toList]
  have h:=xf (P:=P) (w:=w) em 9998 vs 3 fs.toList 0 ts xV dC (by simp[AV.cells,MK.ks]at hlen;omega)
  rw[h]
  rfl
theorem IB (a b:ByteArray):(a==b)=decide (a=b):=by
 by_cases h:a=b
 ·subst h;rw[decide_eq_true rfl]
  obtain⟨x⟩:=a
  show(x==x)=true
  simp
 ·rw[decide_eq_false h,Bool.eq_false_iff]
  intro hc
  obtain⟨x⟩:=a
  obtain⟨y⟩:=b
  exact h (by rw[show x=y by simpa using(show(x==y)=true from hc)])
theorem Kq {t:TypeId} {s:TS} {x y:AV} {u v:Value} {b:Bool} {d:TypeDesc} (ht:fB P t=some s) (hd:P.underlying t=some d) (he:fW s x y=some b) (hx:cL P w D ι x u) (hy:cL P w D ι y v):Instr.sameNow d u v=some b:=by
 unfold fW at he
 split at he
 ·rename_i k n k' n'
  split at he
  ·rename_i hk
   subst hk
   simp at he;subst he
   obtain⟨q,hq⟩:=pJ ht
   rw[hd]at hq;injection hq with hq;subst hq
   rw[dz hx,dz hy]
   simp[Instr.sameNow]
   rfl
  ·cases he
 ·simp at he;subst he
  have hq:=pI ht
  rw[hd]at hq;injection hq with hq;subst hq
  rw[fm hx,fm hy];rfl
 ·rename_i a c
  simp at he;subst he
  have hq:=pK ht
  rw[hd]at hq;injection hq with hq;subst hq
  rw[fI hx,fI hy]
  simp only[Instr.sameNow,IB]
 ·cases he
def Found (es:List MapEntry) (i:Nat) (r:Option Nat) (res:Option (Nat×Value)):Prop:=(r=none/\res=none)∨∃j e,r=some (i+j)/\es[j]? =some e/\res=some (i+j,e.val)
theorem wi {e:MapEntry} {es:List MapEntry} {i:Nat} {r:Option Nat} {res:Option (Nat×Value)} (h:Found es (i+1) r res):Found (e::es) i r res:=by
 rcases h with h|⟨j,x,h1,h2,h3⟩
 ·exact .inl h
 ·exact .inr ⟨j+1,x,by rw[h1];congr 1;omega,by simpa using h2,by rw[h3];congr 2;omega⟩
theorem Bs {t:TypeId} {s:TS} {d:TypeDesc} {x:AV} {u:Value} (ht:fB P t=some s) (hd:P.underlying t=some d) (hx:cL P w D ι x u):∀(rows:List (List AV)) (es:List MapEntry) (i:Nat) (r:Option Nat),es.length=rows.length->
  (∀(j:Nat) (cs:List AV),rows[j]? =some cs->∃(e:MapEntry) (kv:AV),es[j]? =some e/\cs.head? =some kv/\cL P w D ι kv e.key)->gu ⟨false,[s]⟩ [x] rows i=some r->∃res,Instr.findNow d u es i=some res/\Found es i r res
 |[],[],i,r,_,_,h=>by
  simp[gu]at h;subst h
  exact⟨none,rfl,.inl ⟨rfl,rfl⟩⟩
 |[],e::es,i,r,hl,_,h=>by simp at hl
 |cs::rows,[],i,r,hl,_,h=>by simp at hl
 |cs::rows,e::es,i,r,hl,hr,h=>by
  obtain⟨e',kv,LL,hk,gS⟩:=hr 0 cs rfl
  simp at LL;subst LL
  have dy:cs.take (MK.ks ⟨false,[s]⟩)=[kv]:=by
   cases cs with
   |nil=>simp at hk
   |cons a l=>simp at hk;subst hk;simp[MK.ks]
  unfold gu at h
  rw[dy]at h
  cases hq:fW s x kv with
  |none=>simp[fe,hq]at h
  |some b=>
   have hs:=Kq ht hd hq hx gS
   cases b with
   |true=>
    simp[fe,hq]at h;subst h
    exact⟨some (i,e.val),by simp[Instr.findNow,hs],.inr ⟨0,e,rfl,rfl,rfl⟩⟩
   |false=>
    simp[fe,hq]at h
    obtain⟨res,h1,h2⟩:=Bs ht hd hx rows es (i+1) r (by simpa using hl) (fun j cs hj=>hr (j+1) cs (by simpa using hj)) h
    exact⟨res,by simp[Instr.findNow,hs,h1],wi h2⟩
theorem qg {t:TypeId} {fs:Array Field} {ts:List TS} {xs ys:List AV} {vs us:Array Value} {b:Bool} (rL:P.underlying t=some (.struct fs)) (dK:P.stoodInHeld t=false) (xV:eP P 4 0 fs.toList=some ts) (hx:fy P w D ι xs vs) (hy:fy P w D ι ys us) (hv:fe ts xs ys=some b):(Op.equal t (.agg vs) (.agg us)).run P w=.ok b w:=by
 obtain⟨l1,l2⟩:=rI hv
 have q:=sf (w:=w) 4 fs.toList 0 ts xV 9998 (by omega) xs ys vs us b hx hy (by simpa[List.take_of_length_le,l1,l2]using hv)
 have Nf:P.fieldsOf t=fs:=by simp[Program.fieldsOf,rL]
 unfold Op.equal
 rw[show Op.maxDepth=9999+1 from rfl,run_equalIn_struct w 9999 t _ _ (by rw[Nf];exact rL) dK,Nf,q]
theorem sa {cs:List AV} {v:Value} (h:cL P w D ι (.agg cs) v):∃vs,v=.agg vs/\fy P w D ι cs vs:=by
 obtain⟨vs,f,rfl,n1,_,f1,r1⟩:=iV h
 exact⟨vs,rfl,n1,fun j a ha=>⟨f j,f1 j (List.getElem?_eq_some_iff.1 ha).1,r1 j a ha⟩⟩
theorem Br {t:TypeId} {fs:Array Field} {ts:List TS} {xs:List AV} {vs:Array Value} (rL:P.underlying t=some (.struct fs)) (dK:P.stoodInHeld t=false) (xV:eP P 4 0 fs.toList=some ts) (hx:fy P w D ι xs vs):∀(rows:List (List AV)) (es:List MapEntry) (i:Nat) (r:Option Nat),es.length=rows.length->
  (∀(j:Nat) (cs:List AV),rows[j]? =some cs->∃e:MapEntry,es[j]? =some e/\cL P w D ι (.agg (cs.take ts.length)) e.key)->gu ⟨true,ts⟩ xs rows i=some r->∃res,(Instr.findAsking t (.agg vs) es i).run P w=.ok res w/\Found es i r res
 |[],[],i,r,_,_,h=>by
  simp[gu]at h;subst h
  exact⟨none,by simp[Instr.findAsking],.inl ⟨rfl,rfl⟩⟩
 |[],e::es,i,r,hl,_,h=>by simp at hl
 |cs::rows,[],i,r,hl,_,h=>by simp at hl
 |cs::rows,e::es,i,r,hl,hr,h=>by
  obtain⟨e',LL,gS⟩:=hr 0 cs rfl
  simp at LL;subst LL
  obtain⟨us,hk,hy⟩:=sa gS
  unfold gu at h
  simp only[MK.ks]at h
  split at h
  ·rename_i hq
   simp at h;subst h
   have q:=qg rL dK xV hx hy hq
   exact⟨some (i,e.val),by simp[Instr.findAsking,hk,q],.inr ⟨0,e,rfl,rfl,rfl⟩⟩
  ·rename_i hq
   have q:=qg rL dK xV hx hy hq
   obtain⟨res,h1,h2⟩:=Br rL dK xV hx rows es (i+1) r (by simpa using hl) (fun j cs hj=>hr (j+1) cs (by simpa using hj)) h
   exact⟨res,by simp[Instr.findAsking,hk,q,h1],wi h2⟩
  ·cases h
theorem wb {a:AV} (h:a.isAgg=false):a.cells=[a]:=by cases a<;>simp_all [AV.isAgg,AV.cells]
theorem wh {k:TypeId} {m:MK} {B:sG} {r:Row} (hk:Fi P k m) {key:AV} {u:Value} (hr:cL P w D ι key u) {es:Array MapEntry} (fA:es.size=r.rows.length)
  (hM:∀(i:Nat) (cs:List AV),r.rows[i]? =some cs->∃(e:MapEntry) (kv vv:AV),es[i]? =some e/\part m.ka m.ks cs=some kv/\cs[m.ks]? =some vv/\cL P w D ι kv e.key/\cL P w D ι vv e.val) {fi:Option Nat} (h:fS m key r.rows=some fi):
  (∀em,(Instr.checkKey em 10000 k u).run P w=.ok () w)/\∃res,(Instr.findKey k u es.toList).run P w=.ok res w/\Found es.toList 0 fi res:=by
 unfold fS at h
 split at h
 ·rename_i hc
  obtain⟨c1,c2,c3⟩:=hc
  refine⟨fun em=>EL hk em key u c1 c2 hr,?_⟩
  rcases hk with⟨s,rfl,hs⟩|⟨fs,ts,rfl,rL,xV,dK,dC⟩
  ·rw[wb c1]at h
   have hd:∃d,P.underlying k=some d:=by
    cases s with
    |tB=>exact⟨_,pI hs⟩
    |tS=>exact⟨_,pK hs⟩
    |tI=>obtain⟨q,hq⟩:=pJ hs;exact⟨_,hq⟩
   obtain⟨d,hd⟩:=hd
   obtain⟨res,h1,h2⟩:=Bs hs hd hr r.rows es.toList 0 fi (by simpa using fA) (fun j cs hj=>by
    obtain⟨e,kv,vv,q1,q2,_,q4,_⟩:=hM j cs hj
    exact⟨e,kv,by simpa using q1,by simpa[part]using q2,q4⟩) h
   exact⟨res,by simp[Instr.findKey,run_underlying hd,h1],h2⟩
  ·cases key<;>simp[AV.isAgg]at c1
   rename_i cs
   obtain⟨vs,rfl,hL⟩:=sa hr
   obtain⟨res,h1,h2⟩:=Br rL dK xV hL r.rows es.toList 0 fi (by simpa using fA) (fun j cs hj=>by
    obtain⟨e,kv,vv,q1,q2,_,q4,_⟩:=hM j cs hj
    unfold part at q2
    simp only[if_true]at q2
    split at q2
    ·simp only[Option.some.injEq]at q2;subst q2
     exact⟨e,by simpa using q1,q4⟩
    ·cases q2) h
   exact⟨res,(run_findKey_eq w (by simp[rL]) _ _).trans h1,h2⟩
 ·cases h
section
variable {g:Rows} {hs:Nat} {env:Env} {a:Act} {o:Oper} {id:Id} {v:AV}
theorem zW {m:MK} {x:AV} {u:Value} {p:Id×Row} (S:gF P hs D ι g w) (hr:cL P w D ι x u) (h:dW g m x=some p):∃B,u=.map (some B.b)/\g p.1=some p.2/\ι p.1=some B/\B.k=some (.map m)/\M4 P w D ι B m p.2:=by
 unfold dW at h
 split at h
 ·rename_i i m'
  split at h
  ·rename_i hm
   subst hm
   simp only[Option.map_eq_some_iff]at h
   obtain⟨r,hg,rfl⟩:=h
   obtain⟨B,rfl,hB,hk⟩:=F2 hr
   obtain⟨B',dH,R,_⟩:=S.row i r hg
   rw[hB]at dH;injection dH with dH;subst dH
   exact⟨B,rfl,hg,hB,hk,(R.map _ hk).2⟩
  ·cases h
 ·cases h
theorem P5 {t:TypeId} {x k:Operand} {ok:Bool} {m:MK} {z:K} {x' k':O} {mr:Option Row} (S:gF P hs D ι g w) (E:cE P w D ι env a) (ho:o.op=.lookup t x k ok) (hc:sU P t=some (m,z)) (hx:cO P x=some x') (hk:cO P k=some k')
  (hv:bH (.look m ok z) [dj env x',dj env k'] g id=some (v,mr)):mr=none/\ot P a o w D ι v:=by
 obtain⟨kt,e,i,zv,ht,hi,qf,Tl,hK⟩:=rz hc
 simp only[bH,Option.bind_eq_some_iff,Option.map_eq_some_iff,Prod.mk.injEq]at hv
 obtain⟨p,hp,fi,BG,y,hy,rfl,rfl⟩:=hv
 obtain⟨B,hu,hg,hB,uT,es,clock,hb,fA,hlen,hM⟩:=zW S (dt E hx) hp
 obtain⟨K4,res,hf,hF⟩:=wh (B:=B) hK (dt E hk) fA hM BG
 have key:∃val,(match res with|some (_,v)=>(v,true)|none=>(zv,false))=(val,fi.isSome)/\cL P w D ι y val:=by
  rcases hF with⟨rfl,rfl⟩|⟨j,en,rfl,he,rfl⟩
  ·simp only[eb,Option.some.injEq]at hy;subst hy
   refine⟨zv,rfl,?_⟩
   rw[zR Tl];exact w9 z
  ·simp only[eb,Option.bind_eq_some_iff,Nat.zero_add]at hy
   obtain⟨cs,dy,hy⟩:=hy
   obtain⟨e',kv,vv,q1,_,q3,_,q5⟩:=hM _ cs dy
   rw[hy]at q3;injection q3 with q3;subst q3
   have:e'=en:=by
    have h1:es.toList[j]? =some e':=by simpa using q1
    rw[he]at h1;injection h1 with h1;exact h1.symm
   subst this
   exact⟨_,rfl,q5⟩
 obtain⟨val,tb,lI⟩:=key
 have fq:(getObj B.b).run P w=.ok (.map es clock) w:=MapKept.run_getObj_map hb
 have hz:(zeroValue e).run P w=.ok zv w:=by simp[zeroValue,typeInfo,hi,qf]
 refine⟨rfl,if ok then .tuple #[val,.bool fi.isSome]else val,?_,?_⟩
 ·simp only[execOp,ho,hu,Instr.lookup,Sem.run_bind,run_underlying ht,Result.andThen_ok,fq,Sem.run_pure,K4,hf]
  rcases hF with⟨rfl,rfl⟩|⟨j,en,rfl,he,rfl⟩
  ·simp only[Prod.mk.injEq]at tb
   simp[hz,tb.1]
  ·simp only[Prod.mk.injEq]at tb
   simp[tb.1]
 ·cases ok with
  |false=>exact lI
  |true=>
   refine .gE _ _ (fun j=>if j=0 then val else .bool fi.isSome) rfl (fun j hj=>?_) (fun j b hj=>?_)
   ·have:j=0∨j=1:=by simp at hj;omega
    rcases this with rfl|rfl<;>rfl
   ·match j,hj with
    |0,hj=>simp at hj;subst hj;exact lI
    |1,hj=>simp at hj;subst hj;exact .eT _ _ (.bool _)
    |j+2,hj=>simp at hj
theorem P8 {t:TypeId} {x:Operand} {m:MK} {z:K} {x':O} {mr:Option Row} (S:gF P hs D ι g w) (E:cE P w D ι env a) (ho:o.op=.call {callee:=.builtin .len,args:= #[x],argTypes:= #[t]}) (hc:sU P t=some (m,z)) (hx:cO P x=some x')
  (hv:bH (.len m) [dj env x'] g id=some (v,mr)):mr=none/\ot P a o w D ι v:=by
 obtain⟨kt,e,i,zv,ht,hi,qf,Tl,hK⟩:=rz hc
 simp only[bH,Option.map_eq_some_iff,Prod.mk.injEq]at hv
 obtain⟨p,hp,rfl,rfl⟩:=hv
 obtain⟨B,hu,hg,hB,uT,es,clock,hb,fA,hlen,hM⟩:=zW S (dt E hx) hp
 have fq:(getObj B.b).run P w=.ok (.map es clock) w:=MapKept.run_getObj_map hb
 refine⟨rfl,.int .i64 (es.size:Int),?_,by rw[fA];exact .eT _ _ (.int _ _)⟩
 simp only[execOp,ho,resolve,Sem.run_bind,Sem.run_pure,Result.andThen_ok,invoke,builtin,Array.map,hu]
 simp[Builtin.len_,run_underlying ht,goInt,hu,fq]
def MkM (P:Program) (a:Act) (o:Oper) (w:World) (id:Id) (v:AV) (r:Row):Prop:=
 ∃m,(execOp a.eval o).run P w=.ok (.value (.map (some w.heap.size))) (w.alloc (.map #[] 0))/\v=.map id m/\r=⟨true,m.pG,[]⟩
theorem Sc {t:TypeId} {m:MK} (ho:o.op=.makeMap t none):MkM P a o w id (.map id m) ⟨true,m.pG,[]⟩:=by
 refine⟨m,?_,rfl,rfl⟩
 simp[execOp,ho,Instr.makeMap,go_sem]
def MkC (P:Program) (a:Act) (o:Oper) (w:World) (id:Id) (v:AV) (r:Row):Prop:=
 ∃n,(execOp a.eval o).run P w=.ok (.value (.chan (some w.heap.size))) (w.alloc (.chan n #[] false 0 0 false))/\v=.rF id/\r=⟨true,qw+n,[]⟩
theorem Pj {t e:TypeId} {x:Operand} {x':O} {dir:ChanDir} {i:TypeInfo} {n:Nat} (E:cE P w D ι env a) (ho:o.op=.makeChan t x) (ht:P.underlying t=some (.chan dir e)) (hi:P.info? e=some i) (hb:i.bytes<=32768) (hx:cO P x=some x') (hn:da (dj env x')=some n):MkC P a o w id (.rF id) ⟨true,qw+n,[]⟩:=by
 refine⟨n,?_,rfl,rfl⟩
 have hr:=dt E hx
 unfold da at hn
 split at hn
 ·rename_i k m hm
  rw[hm]at hr
  split at hn
  ·rename_i hc
   simp only[Option.some.injEq]at hn
   subst hn
   have yE:((m.toNat:Nat):Int)=m:=by omega
   have dZ:(i.bytes:Int)*(m.toNat:Nat)<=281474976710544:=by
    have h1:i.bytes*m.toNat<=32768*1048576:=Nat.mul_le_mul hb (by omega)
    have h2:((i.bytes*m.toNat:Nat):Int)<=281474976710544:=by omega
    rwa [Int.natCast_mul]at h2
   have h:=Conc.run_makeChan (P:=P) (w:=w) ht hi k m.toNat (by omega) dZ
   rw[yE]at h
   simp only[execOp,ho,dz hr,Sem.run_bind,h,Result.andThen_ok,Sem.run_pure]
  ·cases hn
 ·cases hn
theorem zA {x:AV} {u:Value} {i:Id} {r:Row} (S:gF P hs D ι g w) (hr:cL P w D ι x u) (hx:x=.rF i) (hg:g i=some r):∃B c,u=.chan (some B.b)/\ι i=some B/\B.k=some (.chan c)/\r.sz=qw+c/\Ij P w D ι B c r:=by
 subst hx
 obtain⟨B,c,rfl,hB,hk⟩:=MC hr
 obtain⟨B',dH,R,_⟩:=S.row i r hg
 rw[hB]at dH;injection dH with dH;subst dH
 exact⟨B,c,rfl,hB,hk,R.chan c hk⟩
theorem P0 {t e:TypeId} {dir:ChanDir} {x:Operand} {x':O} (S:gF P hs D ι g w) (E:cE P w D ι env a) (ho:o.op=.call {callee:=.builtin .len,args:= #[x],argTypes:= #[t]}) (ht:P.underlying t=some (.chan dir e)) (hx:cO P x=some x') (hv:cY g (dj env x')=some v):ot P a o w D ι v:=by
 have hr:=dt E hx
 unfold cY at hv
 split at hv
 ·rename_i i he
  simp only[Option.map_eq_some_iff]at hv
  obtain⟨r,hg,rfl⟩:=hv
  obtain⟨B,c,hu,hB,hk,fA,buf,s,q,hb,K3,_⟩:=zA S hr he hg
  have fq:(getObj B.b).run P w=.ok (.chan c buf false s q false) w:=by simp[getObj,Sem.run,hb]
  refine⟨.int .i64 (buf.size:Int),?_,by rw[K3];exact .eT _ _ (.int _ _)⟩
  simp only[execOp,ho,resolve,Sem.run_bind,Sem.run_pure,Result.andThen_ok,invoke,builtin,Array.map,hu]
  simp[Builtin.len_,run_underlying ht,goInt,hu,fq]
 ·cases hv
end
end Go.Proofs.YtgoelphibofcmaaGreat.V

namespace Go.Proofs.YtgoelphibofcmaaGreat.V
open Go.RowKit
variable {P:Program} {w w':World} {D D':Nat->Prop} {ι ι':Names}
def Li (P:Program) (a:Act) (o:Oper) (w:World) (D:Nat->Prop) (ι:Names) (id:Id) (v:AV):Option Row->Prop
 |none=>ot P a o w D ι v
 |some r=>Mk P a o w D ι id v r∨MkM P a o w id v r∨MkC P a o w id v r
section
variable {g:Rows} {hs:Nat} {env:Env} {a:Act} {o:Oper} {id:Id} {v:AV}
theorem lz {x:Option AV} {mr:Option Row} (h:x.map (·,(none:Option Row))=some (v,mr)) (H:x=some v->ot P a o w D ι v):Li P a o w D ι id v mr:=by
 cases x with
 |none=>simp at h
 |some y=>simp at h;obtain⟨rfl,rfl⟩:=h;exact H rfl
theorem Sk {neg:Bool} {t yt:TypeId} {x y:Operand} {vo:gH} {mr:Option Row} (ho:o.op=.binOp (if neg then .neq else .eql) t x y yt) (hc:sS P neg t x y=some vo) (hq:eS vo (dj env) g id=some (v,mr)) (E:cE P w D ι env a):Li P a o w D ι id v mr:=by
 unfold sS at hc
 split at hc
 ·split at hc
  ·rename_i e ht
   simp only[Option.map_eq_some_iff]at hc
   obtain⟨x',hx,rfl⟩:=hc
   simp only[eS,ek,Bool.false_eq_true,if_false,Option.map_eq_some_iff,Prod.mk.injEq]at hq
   obtain⟨b,hb,rfl,rfl⟩:=hq
   exact PW E ho ht hx hb
  ·simp at hc
 ·split at hc
  ·rename_i ht
   simp only[Option.map_eq_some_iff]at hc
   obtain⟨x',hx,rfl⟩:=hc
   simp only[eS,ek,if_true,Option.map_eq_some_iff,Prod.mk.injEq]at hq
   obtain⟨b,hb,rfl,rfl⟩:=hq
   exact PV E ho ht hx hb
  ·simp at hc
 ·split at hc
  ·rename_i ht
   simp only[Option.map_eq_some_iff]at hc
   obtain⟨x',hx,rfl⟩:=hc
   simp only[eS,Option.map_eq_some_iff,Prod.mk.injEq]at hq
   obtain⟨b,hb,rfl,rfl⟩:=hq
   exact SC E ho ht hx hb
  ·simp at hc
 ·split at hc
  ·rename_i s hs
   simp only[Option.bind_eq_bind,Option.bind_eq_some_iff,Option.pure_def,Option.some.injEq]at hc
   obtain⟨x',hx,y',hy,rfl⟩:=hc
   simp only[eS,Option.map_eq_some_iff,Prod.mk.injEq]at hq
   obtain⟨b,hb,rfl,rfl⟩:=hq
   have BN:fB P t=some s:=by
    unfold Ua at hs
    split at hs
    ·rename_i s' h;simp at hs;subst hs;exact h
    ·split at hs
     ·split at hs
      ·simp at hs
      ·simp at hs
     ·simp at hs
   exact SD E ho BN hx hy hb
  ·rename_i ts hs
   simp only[Option.bind_eq_bind,Option.bind_eq_some_iff,Option.pure_def,Option.some.injEq]at hc
   obtain⟨x',hx,y',hy,rfl⟩:=hc
   simp only[eS]at hq
   split at hq
   ·rename_i xs ys h1 h2
    simp only[Option.map_eq_some_iff,Prod.mk.injEq]at hq
    obtain⟨b,hb,rfl,rfl⟩:=hq
    unfold Ua at hs
    split at hs
    ·simp at hs
    ·split at hs
     ·rename_i fs rL
      split at hs
      ·rename_i hg
       simp only[Option.map_eq_some_iff,TP.ag.injEq]at hs
       obtain⟨NI,xV,rfl⟩:=hs
       simp only[Bool.and_eq_true,Bool.not_eq_true']at hg
       exact SB E ho rL hg.1 hg.2 xV hx hy h1 h2 hb
      ·simp at hs
     ·simp at hs
   ·simp at hq
  ·simp at hc
theorem Pu {c:Call} {vo:gH} {mr:Option Row} (ho:o.op=.call c) (hc:nC P c=some vo) (hq:eS vo (dj env) g id=some (v,mr)) (S:gF P hs D ι g w) (E:cE P w D ι env a):Li P a o w D ι id v mr:=by
 unfold nC at hc
 split at hc
 ·rename_i kF
  split at hc
  ·rename_i x t h1 h2
   have hce:c={callee:=.builtin .len,args:= #[x],argTypes:= #[t]}:=by
    obtain⟨a,b,c⟩:=c
    simp only at h1 h2 kF
    subst kF
    congr
    ·exact Array.ext' h1
    ·exact Array.ext' h2
   rw[hce]at ho
   split at hc
   ·rename_i e ht
    simp only[Option.map_eq_some_iff]at hc
    obtain⟨x',hx,rfl⟩:=hc
    simp only[eS,Option.map_eq_some_iff,Prod.mk.injEq]at hq
    obtain⟨n,hn,rfl,rfl⟩:=hq
    exact SE E ho ht hx hn
   ·rename_i ht
    simp only[Option.map_eq_some_iff]at hc
    obtain⟨x',hx,rfl⟩:=hc
    exact lz hq fun h=>P3 E ho ht hx h
   ·split at hc
    ·rename_i m z x' hm hx
     simp only[Option.some.injEq]at hc
     subst hc
     obtain⟨rfl,h⟩:=P8 (id:=id) S E ho hm hx hq
     exact h
    ·cases hc
   ·rename_i ht
    simp only[Option.map_eq_some_iff]at hc
    obtain⟨x',hx,rfl⟩:=hc
    exact lz hq fun h=>P0 S E ho ht hx h
   ·simp at hc
  ·simp at hc
 ·split at hc
  ·split at hc
   ·split at hc
    ·split at hc
     ·simp only[Option.bind_eq_bind,Option.bind_eq_some_iff,Option.pure_def,Option.some.injEq]at hc
      obtain⟨x',hx,y',hy,rfl⟩:=hc
      simp[eS]at hq
     ·simp at hc
    ·simp at hc
   ·simp at hc
  ·simp at hc
 ·split at hc
  ·split at hc
   ·split at hc
    ·simp only[Option.map_eq_some_iff]at hc
     obtain⟨x',hx,rfl⟩:=hc
     simp[eS]at hq
    ·simp at hc
   ·simp at hc
  ·simp at hc
 ·split at hc
  ·simp only[Option.map_eq_some_iff]at hc
   obtain⟨x',hx,rfl⟩:=hc
   simp[eS]at hq
  ·simp at hc
 ·simp only[Option.map_eq_some_iff]at hc
  obtain⟨x',hx,rfl⟩:=hc
  simp[eS]at hq
 ·split at hc
  ·split at hc
   ·simp only[Option.some.injEq]at hc
    subst hc
    simp[eS]at hq
   ·cases hc
  ·cases hc
 ·split at hc
  ·split at hc
   ·split at hc
    ·simp only[Option.bind_eq_bind,Option.bind_eq_some_iff,Option.pure_def,Option.some.injEq]at hc
     obtain⟨x',hx,y',hy,rfl⟩:=hc
     simp[eS]at hq
    ·simp at hc
   ·simp at hc
  ·simp at hc
 ·simp at hc
theorem y7 {vo:gH} {mr:Option Row} (hc:qY P o.op=some vo) (hq:eS vo (dj env) g id=some (v,mr)) (S:gF P hs D ι g w) (E:cE P w D ι env a):Li P a o w D ι id v mr:=by
 unfold qY at hc
 split at hc
 ·rename_i ho
  simp only[Option.map_eq_some_iff]at hc
  obtain⟨x',hx,rfl⟩:=hc
  simp[eS]at hq;obtain⟨rfl,rfl⟩:=hq
  exact NK E (.inl ho) hx
 ·rename_i ho
  simp only[Option.map_eq_some_iff]at hc
  obtain⟨x',hx,rfl⟩:=hc
  simp[eS]at hq;obtain⟨rfl,rfl⟩:=hq
  exact NK E (.inr ho) hx
 ·rename_i ho
  simp only[Option.bind_eq_bind,Option.bind_eq_some_iff,Option.pure_def,Option.some.injEq]at hc
  obtain⟨c',h1,x',h2,y',h3,rfl⟩:=hc
  exact lz hq fun h=>P9 E ho h1 h2 h3 h
 ·rename_i ho
  simp only[Option.map_eq_some_iff]at hc
  obtain⟨z,hz,rfl⟩:=hc
  simp only[eS,Option.some.injEq,Prod.mk.injEq]at hq
  obtain⟨rfl,rfl⟩:=hq
  exact .inl (Sd ho hz)
 ·rename_i ho
  simp only[Option.map_eq_some_iff]at hc
  obtain⟨x',hx,rfl⟩:=hc
  simp only[eS,Option.map_eq_some_iff,Prod.mk.injEq]at hq
  obtain⟨cs,dy,rfl,rfl⟩:=hq
  exact .inl (Sb E ho hx dy)
 ·rename_i ho
  simp only[Option.bind_eq_bind,Option.bind_eq_some_iff,Option.pure_def,Option.some.injEq]at hc
  obtain⟨ag,h1,n,h2,x',h3,rfl⟩:=hc
  exact lz hq fun h=>P4 S E ho h1 h2 h3 h
 ·rename_i ho
  simp only[Option.bind_eq_bind,Option.bind_eq_some_iff,Option.pure_def,Option.some.injEq]at hc
  obtain⟨n,h2,x',h3,y',h4,rfl⟩:=hc
  simp[eS]at hq
 ·rename_i ho
  simp only[Option.map_eq_some_iff]at hc
  obtain⟨x',hx,rfl⟩:=hc
  exact lz hq fun h=>SA E ho hx h
 ·rename_i op t x y yt ho
  unfold vV at hc
  split at hc
  ·exact Sk (neg:=false) ho hc hq E
  ·exact Sk (neg:=true) ho hc hq E
  ·simp only[Option.bind_eq_bind,Option.bind_eq_some_iff,Option.pure_def,Option.some.injEq]at hc
   obtain⟨x',h3,y',h4,rfl⟩:=hc
   exact lz hq fun h=>SH (left:=true) E ho h3 h4 h
  ·simp only[Option.bind_eq_bind,Option.bind_eq_some_iff,Option.pure_def,Option.some.injEq]at hc
   obtain⟨x',h3,y',h4,rfl⟩:=hc
   exact lz hq fun h=>SH (left:=false) E ho h3 h4 h
  ·rename_i n1 n2 n3 n4
   split at hc
   ·simp only[Option.bind_eq_bind,Option.bind_eq_some_iff,Option.pure_def,Option.some.injEq]at hc
    obtain⟨x',h3,y',h4,rfl⟩:=hc
    exact lz hq fun h=>Sz E ho n1 n2 h3 h4 h
   ·simp only[Option.bind_eq_bind,Option.bind_eq_some_iff,Option.pure_def,Option.some.injEq]at hc
    obtain⟨x',h3,y',h4,rfl⟩:=hc
    exact lz hq fun h=>PT E ho n1 n2 h3 h4 h
   ·simp at hc
 ·rename_i ho
  simp only[Option.map_eq_some_iff]at hc
  obtain⟨x',hx,rfl⟩:=hc
  exact lz hq fun h=>SG E ho hx h
 ·rename_i ho
  simp only[Option.map_eq_some_iff]at hc
  obtain⟨x',hx,rfl⟩:=hc
  exact lz hq fun h=>SF E ho hx h
 ·rename_i ho
  split at hc
  ·rename_i q k h1 h2
   simp only[Option.map_eq_some_iff]at hc
   obtain⟨x',hx,rfl⟩:=hc
   exact lz hq fun h=>PU E ho h1 h2 hx h
  ·rename_i h1 h2
   simp only[Option.map_eq_some_iff]at hc
   obtain⟨x',hx,rfl⟩:=hc
   exact lz hq fun h=>by
    have hr:=dt E hx
    unfold cm at h
    split at h
    ·rename_i s hb
     simp at h;subst h
     rw[hb]at hr
     exact⟨.string s,by simp only[execOp,ho,fI hr,convert,Sem.run_bind,run_underlying h1,run_underlying h2,Result.andThen_ok,Sem.run_pure],.eT _ _ (.str _)⟩
    ·simp at h
  ·simp at hc
 ·rename_i ho
  split at hc
  ·rename_i e ht
   simp only[Option.bind_eq_bind,Option.bind_eq_some_iff,Option.pure_def,Option.some.injEq]at hc
   obtain⟨n,h1,x',h2,lo,h3,hi,h4,rfl⟩:=hc
   exact lz hq fun h=>MZ S E ho ht h1 h2 h3 h4 h
  ·rename_i ht
   simp only[Option.bind_eq_bind,Option.bind_eq_some_iff,Option.pure_def,Option.some.injEq]at hc
   obtain⟨x',h2,lo,h3,hi,h4,rfl⟩:=hc
   exact lz hq fun h=>KY E ho ht h2 h3 h4 h
  ·simp at hc
 ·rename_i ho
  split at hc
  ·rename_i fs rL
   split at hc
   ·rename_i f hf
    split at hc
    ·rename_i m hm
     simp only[Option.map_eq_some_iff]at hc
     obtain⟨x',hx,rfl⟩:=hc
     exact lz hq fun h=>MV E ho rL hf hm hx h
    ·simp at hc
   ·simp at hc
  ·simp at hc
 ·rename_i ho
  split at hc
  ·rename_i fs rL
   split at hc
   ·rename_i f hf
    simp only[Option.bind_eq_bind,Option.bind_eq_some_iff,Option.pure_def,Option.some.injEq]at hc
    obtain⟨ag,h1,n,h2,x',h3,rfl⟩:=hc
    exact lz hq fun h=>MX E ho rL hf h1 h2 h3 h
   ·simp at hc
  ·simp at hc
 ·rename_i ho
  split at hc
  ·rename_i e ht
   split at hc
   ·rename_i m hm
    simp only[Option.bind_eq_bind,Option.bind_eq_some_iff,Option.pure_def,Option.some.injEq]at hc
    obtain⟨x',h1,i',h2,rfl⟩:=hc
    exact lz hq fun h=>MY S E ho ht hm h1 h2 h
   ·simp at hc
  ·rename_i len e ht
   split at hc
   ·rename_i m hm
    simp only[Option.bind_eq_bind,Option.bind_eq_some_iff,Option.pure_def,Option.some.injEq]at hc
    obtain⟨x',h1,i',h2,rfl⟩:=hc
    exact lz hq fun h=>PX E ho ht hm h1 h2 h
   ·simp at hc
  ·simp at hc
 ·rename_i ho
  split at hc
  ·rename_i ht
   simp only[Option.bind_eq_bind,Option.bind_eq_some_iff,Option.pure_def,Option.some.injEq]at hc
   obtain⟨x',h1,i',h2,rfl⟩:=hc
   exact lz hq fun h=>PZ E ho ht h1 h2 h
  ·rename_i len e ht
   simp only[Option.bind_eq_bind,Option.bind_eq_some_iff,Option.pure_def,Option.some.injEq]at hc
   obtain⟨ag,h0,n,h1,x',h2,i',h3,rfl⟩:=hc
   exact lz hq fun h=>PY E ho ht h0 h1 h2 h3 h
  ·simp at hc
 ·rename_i ho
  simp only[Option.map_eq_some_iff]at hc
  obtain⟨x',hx,rfl⟩:=hc
  exact lz hq fun h=>HU E ho hx h
 ·rename_i ho
  split at hc
  ·rename_i fs rL
   split at hc
   ·rename_i z l hz hl
    split at hc
    ·rename_i dC
     simp only[Option.map_eq_some_iff]at hc
     obtain⟨q,LZ,rfl⟩:=hc
     simp only[eS,Option.map_eq_some_iff,Prod.mk.injEq]at hq
     obtain⟨cs,dy,rfl,rfl⟩:=hq
     exact MU E ho rL hz hl (fun f hf=>by
      rw[Array.all_eq_true_iff_forall_mem]at dC
      exact dC f (Array.mem_toList_iff.1 hf)) LZ dy
    ·simp at hc
   ·simp at hc
  ·rename_i len e ht
   split at hc
   ·rename_i z l n hz hl hn
    simp only[Option.some.injEq]at hc
    subst hc
    simp only[eS,Option.map_eq_some_iff,Prod.mk.injEq]at hq
    obtain⟨cs,dy,rfl,rfl⟩:=hq
    exact KX E ho ht hz hl hn dy
   ·simp at hc
  ·simp at hc
 ·rename_i ho
  split at hc
  ·rename_i e ht
   split at hc
   ·rename_i sz z l h1 h2 h3
    split at hc
    ·rename_i hh
     simp only[Option.some.injEq]at hc
     subst hc
     simp only[eS,Option.map_eq_some_iff,Prod.mk.injEq]at hq
     obtain⟨rs,yG,rfl,rfl⟩:=hq
     exact .inl (JQ E ho ht h1 h2 h3 hh.1 hh.2 (by rw[List.map_map]at yG;exact yG))
    ·simp at hc
   ·simp at hc
  ·simp at hc
 ·rename_i ho
  split at hc
  ·rename_i hh
   simp only[Option.map_eq_some_iff]at hc
   obtain⟨l,hl,rfl⟩:=hc
   simp[eS]at hq;obtain⟨rfl,rfl⟩:=hq
   exact P6 E ho hh.1 hh.2 hl
  ·split at hc
   ·rename_i hh
    simp only[Option.map_eq_some_iff]at hc
    obtain⟨l,hl,rfl⟩:=hc
    simp[eS]at hq;obtain⟨rfl,rfl⟩:=hq
    exact P7 E ho hh.1 hh.2 hl
   ·simp at hc
 ·rename_i ho
  split at hc
  ·rename_i e ht
   split at hc
   ·rename_i m z i h1 h2 h3
    split at hc
    ·rename_i hb
     simp only[Option.bind_eq_bind,Option.bind_eq_some_iff,Option.pure_def,Option.some.injEq]at hc
     obtain⟨l',h4,c',h5,rfl⟩:=hc
     simp only[eS,Option.map_eq_some_iff,Prod.mk.injEq]at hq
     obtain⟨⟨n,r⟩,hr,rfl,rfl⟩:=hq
     exact .inl (Hb E ho ht h1 h2 h3 hb h4 h5 hr)
    ·simp at hc
   ·simp at hc
  ·simp at hc
 ·rename_i ho
  exact Pu ho hc hq S E
 ·rename_i ho
  split at hc
  ·rename_i dir e ht
   split at hc
   ·rename_i i hi
    split at hc
    ·rename_i hb
     simp only[Option.map_eq_some_iff]at hc
     obtain⟨x',hx,rfl⟩:=hc
     simp only[eS,Option.map_eq_some_iff,Prod.mk.injEq]at hq
     obtain⟨n,hn,rfl,rfl⟩:=hq
     exact .inr (.inr (Pj E ho ht hi hb hx hn))
    ·cases hc
   ·cases hc
  ·cases hc
 ·simp only[Option.bind_eq_bind,Option.bind_eq_some_iff,Option.pure_def,Option.some.injEq]at hc
  obtain⟨x',_,y',_,rfl⟩:=hc
  simp[eS]at hq
 ·split at hc
  ·split at hc
   ·simp only[Option.map_eq_some_iff]at hc
    obtain⟨x',_,rfl⟩:=hc
    simp[eS]at hq
   ·cases hc
  ·cases hc
 ·rename_i ho
  split at hc
  ·rename_i m z hm
   simp only[Option.some.injEq]at hc
   subst hc
   simp only[eS,List.map_nil,bH,Option.some.injEq,Prod.mk.injEq]at hq
   obtain⟨rfl,rfl⟩:=hq
   exact .inr (.inl (Sc ho))
  ·cases hc
 ·rename_i ho
  split at hc
  ·rename_i m z x' k' hm hx hk
   simp only[Option.some.injEq]at hc
   subst hc
   obtain⟨rfl,h⟩:=P5 (id:=id) S E ho hm hx hk hq
   exact h
  ·cases hc
 ·split at hc
  ·simp only[Option.some.injEq]at hc
   subst hc
   simp[eS]at hq
  ·cases hc
 ·split at hc
  ·simp only[Option.some.injEq]at hc
   subst hc
   simp[eS]at hq
  ·cases hc
 ·simp only[Option.some.injEq]at hc
  subst hc
  simp[eS]at hq
 ·simp only[Option.some.injEq]at hc
  subst hc
  simp[eS]at hq
 ·simp at hc
end
end Go.Proofs.YtgoelphibofcmaaGreat.V

namespace Go.Proofs.YtgoelphibofcmaaGreat.V
open Go.RowKit
variable {P:Program} {w w':World} {D D':Nat->Prop} {ι ι':Names}
def kK (ι:Names) (id:Id) (B:sG):Names:=fun i=>if i=id then some B else ι i
theorem ez (ι:Names) (id:Id) (B:sG):kK ι id B id=some B:=if_pos rfl
theorem fo {ι:Names} {id:Id} {B:sG} (h:ι id=none):∀i B',ι i=some B'->kK ι id B i=some B':=fun i B' hi=>by
 have:i≠id:=by rintro rfl;rw[h]at hi;cases hi
 rw[kK,if_neg this];exact hi
theorem gx {ι:Names} {id i:Id} {B:sG} (h:i≠id):kK ι id B i=ι i:=if_neg h
section
variable {g:Rows} {hs:Nat} {env:Env} {a:Act} {o:Oper} {id:Id} {v:AV}
theorem lE.frame {B:sG} {r:Row} (h:lE P w D ι B r) (hb:w'.heap[B.b]? =w.heap[B.b]?) (hr:∀a v,cL P w D ι a v->cL P w' D' ι' a v):lE P w' D' ι' B r:=
 ⟨h.sz,by obtain⟨c,T,h1,h2⟩:=h.xI;exact⟨c,T,hb.trans h1,h2⟩,h.fits,h.len,h.flat,fun i j cs a hi hj=>by
  obtain⟨v,h1,h2⟩:=h.at_ i j cs a hi hj
  exact⟨v,(World.cell?_of_block (a:=⟨B.b,i*r.sz+j,none⟩) hb).trans h1,hr _ _ h2⟩⟩
theorem gT.frame {B:sG} {r:Row} (h:gT P w D ι B r) (hb:w'.heap[B.b]? =w.heap[B.b]?) (hr:∀a v,cL P w D ι a v->cL P w' D' ι' a v):gT P w' D' ι' B r:=
 ⟨h.sz,h.flat,fun hk=>(h.row hk).frame hb hr,fun m hm=>by
  obtain⟨h1,es,c,h2,h3,h5,h4⟩:=h.map m hm
  refine⟨h1,es,c,hb.trans h2,h3,h5,fun i cs hi=>?_⟩
  obtain⟨e,kv,vv,q1,q2,q3,q4,q5⟩:=h4 i cs hi
  exact⟨e,kv,vv,q1,q2,q3,hr _ _ q4,hr _ _ q5⟩,fun c hc=>by
  obtain⟨h1,buf,s,q,h2,h3,h4⟩:=h.chan c hc
  refine⟨h1,buf,s,q,hb.trans h2,h3,fun i cs hi=>?_⟩
  obtain⟨a,u,q1,q2,q3⟩:=h4 i cs hi
  exact⟨a,u,q1,q2,hr _ _ q3⟩⟩
theorem gF.kill (S:gF P hs D ι g w) (i:Id):gF P hs D ι (cD g i) w:=by
 refine⟨S.lo,S.dead,fun id r h=>?_,fun id j5 r r' B B' h h' hw hB dH hb=>?_⟩
 ·unfold cD at h;split at h
  ·cases h
  ·exact S.row id r h
 ·unfold cD at h h'
  split at h
  ·cases h
  ·split at h'
   ·cases h'
   ·exact S.inj id j5 r r' B B' h h' hw hB dH hb
theorem gF.sub {g':Rows} (S:gF P hs D ι g w) (h:∀id r,g' id=some r->g id=some r):gF P hs D ι g' w:=
 ⟨S.lo,S.dead,fun id r hr=>S.row id r (h id r hr),fun id j5 r r' B B' h1 h2=>S.inj id j5 r r' B B' (h _ _ h1) (h _ _ h2)⟩
theorem AB {hid:List Nat} {n:Nat} {g:Rows}:∀id r,fZ hid n g id=some r->g id=some r:=fun id r h=>by
 cases hid with
 |nil=>exact h
 |cons a l=>
  have e:fZ (a::l) n g id=if (a::l).contains id.site=true/\id.bQ=n then none else g id:=rfl
  rw[e]at h
  by_cases hc:(a::l).contains id.site=true/\id.bQ=n
  ·rw[if_pos hc]at h;cases h
  ·rw[if_neg hc]at h;exact h
theorem gF.stay (S:gF P hs D ι g w) (hb:∀b,b<w.heap.size->w'.heap[b]? =w.heap[b]?) (hz:w.heap.size<=w'.heap.size) (hD:∀b,D b->D' b) (hD':∀b,D' b->b<w'.heap.size) (kr:∀b,D' b->D b∨w.heap.size<=b) (hι:∀id B,ι id=some B->ι' id=some B):gF P hs D' ι' g w':=by
 have hr:∀a v,cL P w D ι a v->cL P w' D' ι' a v:=fun a v h=>h.frame (fun b hd=>hb b (S.dead b hd)) hD hι
 have lt:∀{id r B},g id=some r->ι id=some B->B.b<w.heap.size:=fun {id r B} h hB=>by
  obtain⟨B',dH,R,_⟩:=S.row id r h
  rw[hB]at dH;injection dH with dH;subst dH
  exact R.lt
 refine⟨Nat.le_trans S.lo hz,hD',fun id r h=>?_,fun id j5 r r' B B' h h' hw hB dH he=>?_⟩
 ·obtain⟨B,hB,R,h1,h2⟩:=S.row id r h
  exact⟨B,hι _ _ hB,R.frame (hb _ (lt h hB)) hr,h1,fun hw hd=>by
   rcases kr _ hd with hd|hd
   ·exact h2 hw hd
   ·have:=lt h hB;omega⟩
 ·obtain⟨C,hC,_⟩:=S.row id r h
  obtain⟨C',uB,_⟩:=S.row j5 r' h'
  have e1:=hι _ _ hC
  have e2:=hι _ _ uB
  rw[hB]at e1;injection e1 with e1;subst e1
  rw[dH]at e2;injection e2 with e2;subst e2
  exact S.inj id j5 r r' _ _ h h' hw hC uB he
theorem Step.stay (S:gF P hs D ι g w) (hb:∀b,b<w.heap.size->w'.heap[b]? =w.heap[b]?) (hz:w.heap.size<=w'.heap.size) (e1:w'.os=w.os) (e2:w'.tape=w.tape) (e3:w'.output=w.output) (hD:∀b,D b->D' b) (kr:∀b,D' b->D b∨w.heap.size<=b) (hι:∀id B,ι id=some B->ι' id=some B):Step hs D ι w D' ι' w':=
 ⟨⟨e1,e2,e3,hz,fun k hk=>hb k (Nat.lt_of_lt_of_le hk S.lo)⟩,fun b hd=>hb b (S.dead b hd),hD,hι,fun b h=>(kr b h).imp_right (Nat.le_trans S.lo)⟩
theorem gF.alloc (S:gF P hs D ι g w) {cells:Array Value} {T:TypeId} {r:Row} (hh:w'.heap=w.heap.push (.cells cells T (0,0))) (hn:ι id=none) (hw:r.w=true) (h1:r.rows.length*r.sz<=cells.size) (h2:∀cs∈r.rows,cs.length=r.sz) (h3:∀cs∈r.rows,∀a∈cs,a.cell=true)
  (h4:∀i j cs a,r.rows[i]? =some cs->cs[j]? =some a->∃x,cells[i*r.sz+j]? =some x/\cL P w D ι a x):gF P hs D (kK ι id ⟨w.heap.size,r.sz,cells.size,none⟩) (bL g id r) w':=by
 have hb:∀b,b<w.heap.size->w'.heap[b]? =w.heap[b]? :=fun b dZ=>by rw[hh,Array.getElem?_push,if_neg (by omega)]
 have hz:w.heap.size<=w'.heap.size:=by rw[hh];simp
 have S':=S.stay (D':=D) (ι':=kK ι id ⟨w.heap.size,r.sz,cells.size,none⟩) hb hz (fun _ h=>h) (fun b hd=>Nat.lt_of_lt_of_le (S.dead b hd) hz) (fun _ h=>.inl h) (fo hn)
 have hr:∀a v,cL P w D ι a v->cL P w' D (kK ι id ⟨w.heap.size,r.sz,cells.size,none⟩) a v:=fun a v h=>h.frame (fun b hd=>hb b (S.dead b hd)) (fun _ h=>h) (fo hn)
 have kr:w'.heap[w.heap.size]? =some (.cells cells T (0,0)):=by rw[hh];simp
 have gone:g id=none:=by
  cases hg:g id with
  |none=>rfl
  |some q=>
   obtain⟨B,hB,_⟩:=S.row id q hg
   rw[hn]at hB;cases hB
 have lt:∀{i q B},g i=some q->ι i=some B->B.b<w.heap.size:=fun {i q B} h hB=>by
  obtain⟨B',dH,R,_⟩:=S.row i q h
  rw[hB]at dH;injection dH with dH;subst dH
  exact R.lt
 refine⟨S'.lo,S'.dead,fun i q h=>?_,fun i i' q q' B B' h h' Ju hB dH he=>?_⟩
 ·unfold bL at h
  split at h
  ·rename_i e
   subst e
   injection h with h;subst h
   refine⟨_,ez _ _ _,lE.obj ⟨rfl,⟨cells,T,kr,rfl⟩,h1,h2,h3,fun k j cs a hk hj=>?_⟩ rfl,fun _=>S.lo,fun _ hd=>?_⟩
   ·obtain⟨x,hx,hrx⟩:=h4 k j cs a hk hj
    exact⟨x,by simp[World.cell?,kr,hx],hr _ _ hrx⟩
   ·have:=S.dead _ hd;simp at this
  ·exact S'.row i q h
 ·unfold bL at h h'
  split at h
  ·rename_i e
   split at h'
   ·rename_i e';exact e.trans e'.symm
   ·exfalso
    rename_i e'
    subst e
    rw[ez]at hB;injection hB with hB;subst hB
    rw[gx e']at dH
    have:=lt h' dH
    simp at he;omega
  ·rename_i e
   split at h'
   ·exfalso
    rename_i e'
    subst e'
    rw[ez]at dH;injection dH with dH;subst dH
    rw[gx e]at hB
    have:=lt h hB
    simp at he;omega
   ·exact S'.inj i i' q q' B B' h h' Ju hB dH he
theorem gF.put (S:gF P hs D ι g w) {r r':Row} {B:sG} {cur cur':Array Value} {T:TypeId} (hid:g id=some r) (hw:r.w=true) (hB:ι id=some B) (hblk:w.heap[B.b]? =some (.cells cur T (0,0))) (fA:cur'.size=cur.size)
  (h0:r'.w=true) (h1:r'.sz=r.sz) (h2:r'.rows.length*r'.sz<=B.C) (h3:∀cs∈r'.rows,cs.length=r'.sz) (h4:∀cs∈r'.rows,∀a∈cs,a.cell=true)
  (h5:∀i j cs a,r'.rows[i]? =some cs->cs[j]? =some a->∃v,cur'[i*r.sz+j]? =some v/\cL P w D ι a v):gF P hs D ι (bL g id r') (w.setRow B.b cur')/\Step hs D ι w D ι (w.setRow B.b cur'):=by
 obtain⟨B0,BC,RO,kq,mh⟩:=S.row id r hid
 rw[hB]at BC;injection BC with BC;subst BC
 have xz:=RO.Mp hblk
 have R:=RO.row xz
 have hd:∀b,D b->(w.setRow B.b cur').heap[b]? =w.heap[b]? :=fun b hb=>setRow_other w B.b b cur' (by rintro rfl;exact mh hw hb)
 have hr:∀a v,cL P w D ι a v->cL P (w.setRow B.b cur') D ι a v:=fun a v h=>h.frame hd (fun _ h=>h) (fun _ _ h=>h)
 have hC:cur.size=B.C:=by
  obtain⟨c,T',h1,h2⟩:=R.xI
  rw[hblk]at h1;injection h1 with h1;injection h1 with h1 Oh;subst h1;exact h2
 refine⟨⟨by simpa using S.lo,fun b hb=>by simpa using S.dead b hb,fun i q h=>?_,fun i i' q q' C C' h h' Ju hC uB he=>?_⟩,⟨⟨by simp,by simp,by simp,by simp,fun k hk=>setRow_other w B.b k cur' (by have:=kq hw;omega)⟩,hd,fun _ h=>h,fun _ _ h=>h,fun _ h=>.inl h⟩⟩
 ·unfold bL at h
  split at h
  ·rename_i e
   subst e
   injection h with h;subst h
   refine⟨B,hB,lE.obj ⟨by rw[h1];exact R.sz,⟨cur',T,setRow_heap w B.b cur cur' T _ hblk,by rw[fA];exact hC⟩,h2,h3,h4,fun k j cs a hk hj=>?_⟩ xz,fun _=>kq hw,fun _=>mh hw⟩
   obtain⟨v,hv,lI⟩:=h5 k j cs a hk hj
   exact⟨v,by rw[cell_setRow_same w B.b _ cur cur' T _ hblk,h1];exact hv,hr _ _ lI⟩
  ·rename_i e
   obtain⟨C,hC,RC,k1,k2⟩:=S.row i q h
   refine⟨C,hC,RC.frame (setRow_other w B.b C.b cur' (fun Nc=>e ?_)) hr,k1,k2⟩
   exact(S.inj id i r q B C hid h hw hB hC Nc.symm).symm
 ·unfold bL at h h'
  have get:∀j p,(if j=id then some r' else g j)=some p->∃p0,g j=some p0/\(p.w=true->p0.w=true):=fun j p hp=>by
   split at hp
   ·rename_i e;subst e;injection hp with hp;subst hp;exact⟨r,hid,fun _=>hw⟩
   ·exact⟨p,hp,fun h=>h⟩
  obtain⟨p,hp,Qz⟩:=get _ _ h
  obtain⟨p',OS,_⟩:=get _ _ h'
  exact S.inj i i' p p' C C' hp OS (Qz Ju) hC uB he
theorem gF.rename (S:gF P hs D ι g w) {i:Id} {r:Row} {B:sG} (hi:g i=some r) (hw:r.w=true) (hB:ι i=some B) (hn:ι id=none):gF P hs D (kK ι id B) (bL (cD g i) id r) w:=by
 have S':=S.stay (w':=w) (D':=D) (ι':=kK ι id B) (fun _ _=>rfl) (Nat.le_refl _) (fun _ h=>h) S.dead (fun _ h=>.inl h) (fo hn)
 have gP:i≠id:=by rintro rfl;rw[hn]at hB;cases hB
 obtain⟨B1,AN,R,k1,k2⟩:=S'.row i r hi
 rw[gx gP,hB]at AN;injection AN with AN;subst AN
 have get:∀j p,bL (cD g i) id r j=some p->(j=id/\p=r)∨(j≠id/\j≠i/\g j=some p):=fun j p hp=>by
  unfold bL cD at hp
  split at hp
  ·rename_i e;injection hp with hp;exact .inl ⟨e,hp.symm⟩
  ·rename_i e
   split at hp
   ·cases hp
   ·rename_i e';exact .inr ⟨e,e',hp⟩
 refine⟨S.lo,S.dead,fun j p h=>?_,fun j j' p p' C C' h h' Qz hC uB he=>?_⟩
 ·rcases get j p h with⟨rfl,rfl⟩|⟨_,_,hp⟩
  ·exact⟨B,ez _ _ _,R,k1,k2⟩
  ·exact S'.row j p hp
 ·rcases get j p h with⟨rfl,rfl⟩|⟨q1,q2,hp⟩
  ·rcases get j' p' h' with⟨rfl,rfl⟩|⟨q1',q2',OS⟩
   ·rfl
   ·exfalso
    rw[ez]at hC;injection hC with hC;subst hC
    rw[gx q1']at uB
    exact q2' (S.inj i j' p p' B C' hi OS hw hB uB he).symm
  ·rcases get j' p' h' with⟨rfl,rfl⟩|⟨q1',q2',OS⟩
   ·exfalso
    rw[ez]at uB;injection uB with uB;subst uB
    rw[gx q1]at hC
    exact q2 (S.inj j i p p' C B hp hi Qz hC hB he)
   ·rw[gx q1]at hC
    rw[gx q1']at uB
    exact S.inj j j' p p' C C' hp OS Qz hC uB he
def C7 (P:Program) (hs:Nat) (a:Act) (o:Oper) (w:World) (D:Nat->Prop) (ι:Names) (id:Id) (v:AV) (g':Rows):Prop:=
 ∃u w' ι',((execOp a.eval o).run P w=.ok (.value u) w'∨(execOp a.eval o).run P w=.ok .skip w'/\u=undef)/\Step hs D ι w D ι' w'/\gF P hs D ι' g' w'/\cL P w' D ι' v u/\∀i,i≠id->ι' i=ι i
theorem Cv {xs:List AV} {vs:Array Value} (h:fy P w D ι xs vs) (hf:∀a∈xs,a.cell=true):∀v∈vs.toList,v.oneCell'=true:=by
 intro v hv
 obtain⟨j,hj,rfl⟩:=List.getElem_of_mem hv
 have K7:j<xs.length:=by rw[<-h.1];simpa using hj
 obtain⟨u,hu,hr⟩:=h.2 j _ (List.getElem?_eq_getElem K7)
 have hc:=hr.Bf (hf _ (List.getElem_mem K7))
 have:vs.toList[j]=u:=by
  have:vs.toList[j]? =some u:=by simpa using hu
  rw[List.getElem?_eq_getElem hj]at this;injection this
 rw[this]
 cases u<;>simp_all [Value.oneCell']
theorem jW {i j n m:Nat} (h:i<n) (hj:j<m):i*m+j<n*m:=by
 have:(i+1)*m<=n*m:=Nat.mul_le_mul_right _ h
 rw[Nat.add_mul,Nat.one_mul]at this;omega
theorem lE.cur {B:sG} {r:Row} (R:lE P w D ι B r):∃cur T,w.heap[B.b]? =some (.cells cur T (0,0))/\cur.size=B.C/\∀i j cs a,r.rows[i]? =some cs->cs[j]? =some a->∃v,cur[i*r.sz+j]? =some v/\cL P w D ι a v:=by
 obtain⟨cur,T,h1,h2⟩:=R.xI
 refine⟨cur,T,h1,h2,fun i j cs a hi hj=>?_⟩
 obtain⟨v,hv,hr⟩:=R.at_ i j cs a hi hj
 exact⟨v,by simpa[World.cell?,h1]using hv,hr⟩
theorem Lz {t:TypeId} {n:Nat} {x y:Operand} {x' y':O} {g':Rows} (S:gF P hs D ι g w) (E:cE P w D ι env a) (ho:o.op=.store t x y) (hn:eA P t=some n) (hx:cO P x=some x') (hy:cO P y=some y')
  (hv:ck g n (dj env y') (dj env x')=some g'):C7 P hs a o w D ι id .undef g':=by
 have rx:=dt E hx
 have ry:=dt E hy
 unfold ck at hv
 split at hv
 ·rename_i i k off hp
  rw[hp]at rx
  simp only[Option.bind_eq_some_iff]at hv
  obtain⟨r,hg,cs,dy,hv⟩:=hv
  split at hv
  ·rename_i hc
   obtain⟨c1,c2,c3,c4⟩:=hc
   simp at hv;subst hv
   obtain⟨B,he,hB,hk⟩:=iJ rx
   obtain⟨B',dH,R,kq,mh⟩:=S.row i r hg
   rw[hB]at dH;injection dH with dH;subst dH
   replace R:=R.row hk
   obtain⟨cur,T,hblk,hC,wG⟩:=R.cur
   have hL:=qU ry c3
   have h1:=Cv hL (List.all_eq_true.1 c3)
   have RW:(a.eval y).cells.size=n:=by rw[hL.1,c2]
   have l6:=(List.getElem?_eq_some_iff.1 dy).1
   have hlen:=R.len cs (List.mem_of_getElem? dy)
   have hbound:k*r.sz+r.sz<=r.rows.length*r.sz:=by
    have:(k+1)*r.sz<=r.rows.length*r.sz:=Nat.mul_le_mul_right _ l6
    rwa [Nat.add_mul,Nat.one_mul]at this
   have hf:=R.fits
   have dK:=run_storeCells_at P B.b (k*B.sz+off) T (a.eval y).cells.toList 0 cur w hblk (by rw[R.sz];simp only[Array.length_toList];omega) h1
   simp only[Nat.add_zero,Array.length_toList]at dK
   have wL:=S.put (r':={r with rows:=r.rows.set k (cK cs off (dj env y').cells)}) hg c1 hB hblk (cur':=(cur.toList.take (k*B.sz+off)++(a.eval y).cells.toList++cur.toList.drop (k*B.sz+off+(a.eval y).cells.size)).toArray)
    (by rw[R.sz];simp;omega) c1 rfl (by simpa using R.fits) (fun c UM=>by
     rcases List.mem_or_eq_of_mem_set UM with h|rfl
     ·exact R.len c h
     ·simp[cK];omega) (fun c UM b hb=>by
     rcases List.mem_or_eq_of_mem_set UM with h|rfl
     ·exact R.flat c h b hb
     ·unfold cK at hb
      rcases List.mem_append.1 hb with hb|hb
      ·rcases List.mem_append.1 hb with hb|hb
       ·exact R.flat cs (List.mem_of_getElem? dy) b (List.mem_of_mem_take hb)
       ·exact List.all_eq_true.1 c3 b hb
      ·exact R.flat cs (List.mem_of_getElem? dy) b (List.mem_of_mem_drop hb)) (fun i2 j c b uW hj=>by
     rw[R.sz]
     simp only[List.getElem?_toArray]
     by_cases yC:i2=k
     ·subst yC
      rw[List.getElem?_set_self l6]at uW
      injection uW with uW;subst uW
      unfold cK at hj
      by_cases hjo:j<off
      ·rw[List.append_assoc,List.getElem?_append_left (by simp;omega),List.getElem?_take,if_pos hjo]at hj
       rw[List.append_assoc,List.getElem?_append_left (by simp;omega),List.getElem?_take,if_pos (by omega)]
       simpa using wG _ _ _ _ dy hj
      ·by_cases iH:j<off+n
       ·rw[List.append_assoc,List.getElem?_append_right (by simp;omega),List.getElem?_append_left (by simp;omega)]at hj
        rw[List.append_assoc,List.getElem?_append_right (by simp;omega),List.getElem?_append_left (by simp;omega)]
        simp only[List.length_take]at hj ⊢
        rw[show j-min off cs.length=j-off by omega]at hj
        rw[show i2*r.sz+j-min (i2*r.sz+off) cur.toList.length=j-off by simp;omega]
        simpa using hL.2 _ _ hj
       ·rw[List.getElem?_append_right (by simp;omega)]at hj
        rw[List.getElem?_append_right (by simp;omega)]
        simp only[List.length_append,List.length_take,List.getElem?_drop,Array.length_toList]at hj ⊢
        rw[show off+(dj env y').cells.length+(j-(min off cs.length+(dj env y').cells.length))=j by omega]at hj
        rw[show i2*r.sz+off+(a.eval y).cells.size+(i2*r.sz+j-(min (i2*r.sz+off) cur.size+(a.eval y).cells.size))=i2*r.sz+j by omega]
        simpa using wG _ _ _ _ dy hj
     ·rw[List.getElem?_set_ne (fun e=>yC e.symm)]at uW
      have hi2l:=(List.getElem?_eq_some_iff.1 uW).1
      have iq:j<r.sz:=by rw[<-R.len c (List.mem_of_getElem? uW)];exact(List.getElem?_eq_some_iff.1 hj).1
      have:=wG _ _ _ _ uW hj
      rcases Nat.lt_or_gt_of_ne yC with dZ|LN
      ·have h2:i2*r.sz+j<k*r.sz:=jW dZ iq
       rw[List.append_assoc,List.getElem?_append_left (by simp;omega),List.getElem?_take,if_pos (by omega)]
       simpa using this
      ·have h2:k*r.sz+r.sz<=i2*r.sz:=by
        have:(k+1)*r.sz<=i2*r.sz:=Nat.mul_le_mul_right _ LN
        rwa [Nat.add_mul,Nat.one_mul]at this
       rw[List.getElem?_append_right (by simp;omega)]
       simp only[List.length_append,List.length_take,List.getElem?_drop,Array.length_toList]
       rw[show k*r.sz+off+(a.eval y).cells.size+(i2*r.sz+j-(min (k*r.sz+off) cur.size+(a.eval y).cells.size))=i2*r.sz+j by omega]
       simpa using this)
   refine⟨undef,_,ι,.inr ⟨?_,rfl⟩,wL.2,wL.1,cL.undef,fun _ _=>rfl⟩
   simp only[execOp,ho,he,Instr.storeAt,Instr.sureAddr,storeVar,Sem.run_bind,Sem.run_pure,Result.andThen_ok,run_sizeOf hn,RW,ne_eq,not_true_eq_false,if_false,dK]
  ·simp at hv
 ·simp at hv
end
end Go.Proofs.YtgoelphibofcmaaGreat.V

namespace Go.Proofs.YtgoelphibofcmaaGreat.V
open Go.RowKit
variable {P:Program} {w w':World} {D D':Nat->Prop} {ι ι':Names}
section
variable {g:Rows} {hs:Nat} {env:Env} {a:Act} {o:Oper} {id:Id} {v:AV}
theorem se (S:gF P hs D ι g w) {y:AV} {u:Value} {ys:List (List AV)} {sz:Nat} (hr:cL P w D ι y u) (hy:bx g y=some ys) (hl:∀c∈ys,c.length=sz) (hf:∀c∈ys,∀b∈c,b.cell=true):
  ∃A c,u=.slice A ys.length c/\(ys=[]∨∃b o,∃news:List Value,A=some ⟨b,o,none⟩/\news.length=ys.length*sz/\(∀j v,news[j]? =some v->w.cell? ⟨b,o+j,none⟩=some v)/\fy P w D ι ys.flatten news.toArray/\∀v∈news,v.oneCell'=true):=by
 have fin:∀b o,ys≠[]->(∀i j cs x,ys[i]? =some cs->cs[j]? =some x->∃v,w.cell? ⟨b,o+(i*sz+j),none⟩=some v/\cL P w D ι x v)->
   ∃news:List Value,news.length=ys.length*sz/\(∀j v,news[j]? =some v->w.cell? ⟨b,o+j,none⟩=some v)/\fy P w D ι ys.flatten news.toArray/\∀v∈news,v.oneCell'=true:=by
  intro b o _ h
  have hlen:=I5 hl
  have at_:∀k,k<ys.length*sz->∃x,ys.flatten[k]? =some x/\∃v,w.cell? ⟨b,o+k,none⟩=some v/\cL P w D ι x v:=by
   intro k hk
   have kz:0<sz:=by
    rcases Nat.eq_zero_or_pos sz with h0|h0
    ·subst h0;simp at hk
    ·exact h0
   have hi:k / sz<ys.length:=Nat.div_lt_of_lt_mul (by rw[Nat.mul_comm];exact hk)
   have hj:k % sz<sz:=Nat.mod_lt _ kz
   have dy:=List.getElem?_eq_getElem hi
   have iq:k % sz<ys[k / sz].length:=by rw[hl _ (List.getElem_mem hi)];exact hj
   have hx:=List.getElem?_eq_getElem iq
   have e:k / sz*sz+k % sz=k:=by rw[Nat.mul_comm];exact Nat.div_add_mod _ _
   refine⟨_,by rw[<-flat_get hl dy hx,e],?_⟩
   obtain⟨v,hv,lI⟩:=h _ _ _ _ dy hx
   rw[e]at hv
   exact⟨v,hv,lI⟩
  let news:=(List.range (ys.length*sz)).map fun k=>(w.cell? ⟨b,o+k,none⟩).getD undef
  have hn:∀k,k<ys.length*sz->∀v,w.cell? ⟨b,o+k,none⟩=some v->news[k]? =some v:=fun k hk v hv=>by
   simp only[news,List.getElem?_map,List.getElem?_range hk,Option.map_some,hv,Option.getD_some]
  have hR:fy P w D ι ys.flatten news.toArray:=⟨by simp[news,hlen],fun j x hx=>by
   have iq:=(List.getElem?_eq_some_iff.1 hx).1
   rw[hlen]at iq
   obtain⟨x',xD,v,hv,lI⟩:=at_ j iq
   rw[hx]at xD;injection xD with xD;subst xD
   exact⟨v,by simpa using hn j iq v hv,lI⟩⟩
  refine⟨news,by simp[news],fun j v hj=>?_,hR,?_⟩
  ·have iq:j<ys.length*sz:=by have:=(List.getElem?_eq_some_iff.1 hj).1;simpa[news]using this
   obtain⟨x,_,v',nV,_⟩:=at_ j iq
   rw[hn j iq v' nV]at hj
   injection hj with hj
   rw[<-hj];exact nV
  ·have:=Cv hR (fun x hx=>by
    obtain⟨c,hc,VB⟩:=List.mem_flatten.1 hx
    exact hf c hc x VB)
   simpa using this
 unfold bx at hy
 split at hy
 ·simp at hy;subst hy
  exact⟨none,0,kj hr,.inl rfl⟩
 ·rename_i rows
  simp at hy;subst hy
  obtain⟨A,c,he,_,_,h3⟩:=xc hr
  refine⟨A,c,he,?_⟩
  rcases h3 with h3|⟨b,oo,sz',vs,rfl,hD,K9,_,hc,hi⟩
  ·exact .inl h3
  ·by_cases h0:rows=[]
   ·exact .inl h0
   ·have BN:sz'=sz:=by
     cases rows with
     |nil=>exact(h0 rfl).elim
     |cons c r=>rw[<-K9 c (by simp),hl c (by simp)]
    subst BN
    obtain⟨news,q1,q2,q3,q4⟩:=fin b oo h0 (fun i j cs x dy hx=>⟨_,hc i j (List.getElem?_eq_some_iff.1 dy).1 (by rw[<-K9 cs (List.mem_of_getElem? dy)];exact(List.getElem?_eq_some_iff.1 hx).1),.eT _ _ (hi i j cs x dy hx)⟩)
    exact .inr ⟨b,oo,news,rfl,q1,q2,q3,q4⟩
 ·rename_i i off len
  simp only[Option.bind_eq_some_iff]at hy
  obtain⟨r,hg,hy⟩:=hy
  split at hy
  ·rename_i hle
   simp at hy;subst hy
   obtain⟨oo,cap,B,he,hB,h1,h2,h3,h4,hk⟩:=iW hr
   obtain⟨B',dH,R,_,_⟩:=S.row i r hg
   rw[hB]at dH;injection dH with dH;subst dH
   replace R:=R.row hk
   have hlen:((r.rows.drop off).take len).length=len:=by simp;omega
   refine⟨some ⟨B.b,oo,none⟩,cap,by rw[hlen];exact he,?_⟩
   by_cases h0:(r.rows.drop off).take len=[]
   ·exact .inl h0
   ·have BN:r.sz=sz:=by
     cases hq:(r.rows.drop off).take len with
     |nil=>exact(h0 hq).elim
     |cons c q=>
      have hm:c∈(r.rows.drop off).take len:=by rw[hq];simp
      rw[<-hl c hm,R.len c (List.mem_of_mem_drop (List.mem_of_mem_take hm))]
    have hlp:0<len:=by rw[<-hlen];exact List.length_pos_iff.2 h0
    have CT:oo=off*B.sz:=by rcases h2 with h2|h2<;>omega
    obtain⟨news,q1,q2,q3,q4⟩:=fin B.b oo h0 (fun i2 j cs x dy hx=>by
     rw[List.getElem?_take]at dy
     split at dy
     ·rw[List.getElem?_drop]at dy
      obtain⟨v,hv,lI⟩:=R.at_ _ _ _ _ dy hx
      refine⟨v,?_,lI⟩
      rw[CT,R.sz,<-BN]
      rw[Nat.add_mul]at hv
      rw[<-Nat.add_assoc]
      exact hv
     ·simp at dy)
    exact .inr ⟨B.b,oo,news,rfl,q1,q2,q3,q4⟩
  ·simp at hy
 ·simp at hy
theorem pa {t ty e:TypeId} {i:TypeInfo} (ht:P.underlying t=some (.slice e)) (hi:P.info? e=some i) (A:Option Addr) (n c:Nat) (hn:n<=c) (B:Option Addr) (d:Nat):
  (Builtin.append_ #[t,t] ty #[.slice A n c,.slice B 0 d]).run P w=.ok (.slice A n c) w:=by
 have hf:(Builtin.firstCells i.size 0 (.slice B 0 d)).run P w=.ok #[] w:=by
  cases B<;>simp[Builtin.firstCells,loadCells,loadCellsFrom]
 cases A with
 |none=>simp[Builtin.append_,run_underlying ht,sizeOf,typeInfo,hi,Builtin.lenOf,hn,hf]
 |some A=>simp[Builtin.append_,run_underlying ht,sizeOf,typeInfo,hi,Builtin.lenOf,hn,hf,storeCells]
theorem x8 {t ty e T:TypeId} {i:TypeInfo} (ht:P.underlying t=some (.slice e)) (hi:P.info? e=some i) (b si EM:Nat) (cur:Array Value) (hg:w.heap[b]? =some (.cells cur T (0,0)))
  (x:Addr) (m c:Nat) (news:List Value) (hl:news.length=m*i.size) (RE:∀j u,news[j]? =some u->w.cell? (x.add j)=some u) (h1:∀u∈news,u.oneCell'=true)
  (gi:si+m<=EM) (qG:si*i.size+news.length<=cur.size):
  (Builtin.append_ #[t,t] ty #[.slice (some ⟨b,0,none⟩) si EM,.slice (some x) m c]).run P w=
   .ok (.slice (some ⟨b,0,none⟩) (si+m) EM) (w.setRow b (cur.toList.take (si*i.size)++news++cur.toList.drop (si*i.size+news.length)).toArray):=by
 have hf:=run_firstCells_some (P:=P) w i.size m x m c news hl RE
 have dK:=run_storeCells_at P b (si*i.size) T news 0 cur w hg (by simpa using qG) h1
 simp only[Nat.add_zero]at dK
 simp[Builtin.append_,run_underlying ht,sizeOf,typeInfo,hi,Builtin.lenOf,gi,hf,kn,dK]
theorem BA (w:World) (Hi yW:Nat) (e:TypeId) (h:Hi<=dI):Hi<=grownCap w Hi yW e/\grownCap w Hi yW e<=maxLen:=by
 unfold dI at h
 simp only[grownCap,Question.cut,maxLen]
 have:=Nat.mod_lt (w.tape w.drawn (.appendCap Hi yW e)) (show 0<2 ^ 63-Hi by omega)
 omega
theorem gm {x y:Operand} {t:TypeId} {u:Value} (ho:o.op=.call {callee:=.builtin .append,args:= #[x,y],argTypes:= #[t,t]}) (h:(Builtin.append_ #[t,t] o.type #[a.eval x,a.eval y]).run P w=.ok u w'):(execOp a.eval o).run P w=.ok (.value u) w':=by
 simp only[execOp,ho,resolve,Sem.run_bind,Sem.run_pure,Result.andThen_ok,invoke,builtin]
 simp only[List.map_toArray,List.map_cons,List.map_nil]
 rw[h];rfl
theorem CC {T:TypeId} (S:gF P hs D ι g w) (cells:Array Value) (hn:ι id=none) (B:sG):Step hs D ι w D (kK ι id B) (w.drew.alloc (.cells cells T)):=
 Step.stay S (fun k hk=>by show(w.heap.push _)[k]? = _;rw[Array.getElem?_push,if_neg (by omega)]) (by show _<=(w.heap.push _).size;simp) rfl rfl rfl (fun _ h=>h) (fun _ h=>.inl h) (fo hn)
theorem IP {x y:Operand} {x' y':O} {t e:TypeId} {m:Nat} {z:List K} {i:TypeInfo} {ys:List (List AV)} {g':Rows} (S:gF P hs D ι g w) (E:cE P w D ι env a) (hn:ι id=none) (ho:o.op=.call {callee:=.builtin .append,args:= #[x,y],argTypes:= #[t,t]})
  (ht:P.underlying t=some (.slice e)) (fA:eA P e=some (m+1)) (hz:jM P e=some z) (hi:P.info? e=some i) (hby:i.bytes<=32768) (hx:cO P x=some x') (hy:cO P y=some y') (FN:bx g (dj env y')=some ys)
  (hv:bd g id (m+1) (dj env x') ys=some (v,g')):C7 P hs a o w D ι id v g':=by
 have rx:=dt E hx
 have ry:=dt E hy
 obtain⟨it,zv,qZ,qf,QI,hm,FO⟩:=j0 hz
 rw[hi]at qZ;injection qZ with qZ;subst qZ
 have jJ:i.size=m+1:=by simpa[eA,hi]using fA
 have fits:∀n,n<=dI->n*i.bytes<=140737488355328:=fun n h=>by
  unfold dI at h
  have:=Nat.mul_le_mul h hby
  omega
 have e63:∀n,n<=dI->(n:Int)<=9223372036854775807:=fun n h=>by unfold dI at h;omega
 have same:∀(w1:World) (cells:Array Value),w1=w.drew.alloc (.cells cells e)->w1.heap=w.heap.push (.cells cells e (0,0)):=fun w1 cells h=>by subst h;rfl
 have QT:∀l:List (List AV),(l.all fun c=>c.length==m+1&&c.all AV.cell)=true->(∀c∈l,c.length=m+1)/\∀c∈l,∀b∈c,b.cell=true:=fun l h=>by
  rw[List.all_eq_true]at h
  refine⟨fun c hc=>?_,fun c hc b hb=>?_⟩
  ·have:=h c hc;simp at this;exact this.1
  ·have:=h c hc;simp at this;exact this.2 b hb
 unfold bd at hv
 split at hv
 ·rename_i hb
  rw[hb]at rx
  have ex:=kj rx
  split at hv
  ·simp at hv
   obtain⟨rfl,rfl⟩:=hv
   obtain⟨A,c,ey,_⟩:=se (sz:=m+1) S ry FN (fun c h=>by cases h) (fun c h=>by cases h)
   refine⟨_,w,ι,.inl (gm ho (by rw[ex,ey];exact pa ht hi none 0 0 (Nat.le_refl _) A c)),Step.refl _ _ _ _,S,.eT _ _ .bE,fun _ _=>rfl⟩
  ·rename_i y0 yr
   split at hv
   ·rename_i hc
    simp only[Option.some.injEq,Prod.mk.injEq]at hv
    obtain⟨rfl,rfl⟩:=hv
    obtain⟨hl,hf⟩:=QT _ hc.2
    obtain⟨A,c,ey,h2⟩:=se (sz:=m+1) S ry FN hl hf
    rcases h2 with h2|⟨b,oo,news,rfl,q1,q2,q3,q4⟩
    ·cases h2
    have gr:=run_append_nil (P:=P) w t o.type e i zv ht hi qf ⟨b,oo,none⟩ (y0::yr).length c news (by rw[jJ];exact q1) (fun j v hj=>by rw[kn];exact q2 j v hj) (by simp) (e63 _ hc.1) (by have:=fits _ hc.1;omega)
    obtain⟨g1,g2⟩:=BA w (y0::yr).length 0 e hc.1
    have dy:(news.toArray++Builtin.zeroCells zv.cells (grownCap w (y0::yr).length 0 e-(y0::yr).length)).size=grownCap w (y0::yr).length 0 e*(m+1):=by
     rw[Array.size_append,size_zeroCells,QI,jJ]
     simp only[List.size_toArray,q1]
     rw[<-Nat.add_mul];congr 1;omega
    have S1:=S.alloc (w':=w.drew.alloc (.cells (news.toArray++Builtin.zeroCells zv.cells (grownCap w (y0::yr).length 0 e-(y0::yr).length)) e)) (r:=⟨true,m+1,y0::yr⟩) rfl hn rfl (by rw[dy];exact Nat.mul_le_mul_right _ g1) hl hf
     (fun k j cs b2 hk hj=>by
      obtain⟨u,hu,xU⟩:=q3.2 _ _ (flat_get hl hk hj)
      refine⟨u,?_,xU⟩
      have dZ:=(Array.getElem?_eq_some_iff.1 hu).1
      dsimp only
      rw[Array.getElem?_append_left dZ];exact hu)
    have dK:=CC (T:=e) S (news.toArray++Builtin.zeroCells zv.cells (grownCap w (y0::yr).length 0 e-(y0::yr).length)) hn ⟨w.heap.size,m+1,(news.toArray++Builtin.zeroCells zv.cells (grownCap w (y0::yr).length 0 e-(y0::yr).length)).size,none⟩
    refine⟨_,_,_,.inl (gm ho (by rw[ex,ey];exact gr)),dK,S1,?_,fun _ h=>gx h⟩
    refine .own _ _ _ _ _ _ (ez _ _ _) rfl g1 (.inr (by simp)) ?_ g2
    dsimp only;rw[dy];simp
   ·simp at hv
 ·rename_i i0 len hb
  rw[hb]at rx
  simp only[Option.bind_eq_some_iff]at hv
  obtain⟨r,hg,hv⟩:=hv
  split at hv
  ·rename_i hc
   obtain⟨c1,c2,c3,c4,c5⟩:=hc
   simp only[Option.some.injEq,Prod.mk.injEq]at hv
   obtain⟨rfl,rfl⟩:=hv
   obtain⟨hl,hf⟩:=QT _ c5
   obtain⟨A,c,ey,h2⟩:=se (sz:=m+1) S ry FN hl hf
   obtain⟨oo,cap,B,ex,hB,h1,CT,h3,h4,hk⟩:=iW rx
   obtain⟨B',dH,R,kq,mh⟩:=S.row _ _ hg
   rw[hB]at dH;injection dH with dH;subst dH
   replace R:=R.row hk
   have I8:B.sz=m+1:=R.sz.trans c2
   have zU:∀cs∈r.rows++ys,cs.length=m+1:=fun cs dy=>by
    rcases List.mem_append.1 dy with h|h
    ·rw[<-c2];exact R.len cs h
    ·exact hl cs h
   have M8:∀cs∈r.rows++ys,∀b∈cs,b.cell=true:=fun cs dy=>by
    rcases List.mem_append.1 dy with h|h
    ·exact R.flat cs h
    ·exact hf cs h
   rcases h2 with rfl|⟨yb,yo,news,rfl,q1,q2,q3,q4⟩
   ·have GQ:=S.rename hg c1 hB hn
    refine⟨_,w,kK ι id B,.inl (gm ho (by rw[ex,ey];exact pa ht hi _ _ _ h1 A c)),⟨Below.refl _ _,fun _ _=>rfl,fun _ h=>h,fo hn,fun _ h=>.inl h⟩,?_,?_,fun _ h=>gx h⟩
    ·have:(⟨true,m+1,r.rows++[]⟩:Row)=r:=by cases r;simp_all
     rw[this];exact GQ
    ·simp only[List.length_nil,Nat.add_zero]
     exact .own _ _ _ _ _ B (ez _ _ _) hk h1 CT h3 h4
   ·obtain⟨cur,T,hblk,hC,wG⟩:=R.cur
    by_cases gi:len+ys.length<=cap
    ·have Tp:ys≠[]->oo=0:=fun h=>by
      rcases CT with CT|CT
      ·have:=List.length_pos_iff.2 h;omega
      ·simpa using CT
     by_cases hy0:ys=[]
     ·subst hy0
      have GQ:=S.rename hg c1 hB hn
      refine⟨_,w,kK ι id B,.inl (gm ho (by rw[ex,ey];exact pa ht hi _ _ _ h1 _ c)),⟨Below.refl _ _,fun _ _=>rfl,fun _ h=>h,fo hn,fun _ h=>.inl h⟩,?_,?_,fun _ h=>gx h⟩
      ·have:(⟨true,m+1,r.rows++[]⟩:Row)=r:=by cases r;simp_all
       rw[this];exact GQ
      ·simp only[List.length_nil,Nat.add_zero]
       exact .own _ _ _ _ _ B (ez _ _ _) hk h1 CT h3 h4
     have ho0:=Tp hy0
     subst ho0
     have qG:len*i.size+news.length<=cur.size:=by
      rw[jJ,q1,hC,<-Nat.add_mul]
      refine Nat.le_trans ?_ h3
      rw[I8,Nat.zero_add]
      exact Nat.mul_le_mul_right _ gi
     have gr:=x8 (ty:=o.type) ht hi B.b len cap cur hblk ⟨yb,yo,none⟩ ys.length c news (by rw[jJ];exact q1) (fun j v hj=>by rw[kn];exact q2 j v hj) q4 gi qG
     have nf:cur.toList.length=cur.size:=Array.length_toList
     simp only[jJ]at gr qG
     obtain⟨P1,P2⟩:=S.put (r':=⟨true,m+1,r.rows++ys⟩) hg c1 hB hblk (cur':=(cur.toList.take (len*(m+1))++news++cur.toList.drop (len*(m+1)+news.length)).toArray) (by simp only[List.size_toArray,List.length_append,List.length_take,List.length_drop,nf];omega) rfl c2.symm
      (by dsimp only;rw[List.length_append,<-c3,<-I8];refine Nat.le_trans (Nat.mul_le_mul_right _ gi) (Nat.le_trans (by simp) h3)) zU M8 (fun k j cs b2 hk hj=>by
       simp only[List.getElem?_toArray]
       have iq:j<m+1:=by rw[<-zU cs (List.mem_of_getElem? hk)];exact(List.getElem?_eq_some_iff.1 hj).1
       rw[c2]
       by_cases l6:k<r.rows.length
       ·rw[List.getElem?_append_left l6]at hk
        have h2:k*(m+1)+j<len*(m+1):=jW (by omega) iq
        rw[List.append_assoc,List.getElem?_append_left (by simp only[List.length_take,nf];omega),List.getElem?_take,if_pos h2]
        have:=wG k j cs b2 hk hj
        rw[c2]at this;simpa using this
       ·rw[List.getElem?_append_right (by omega)]at hk
        have wI:=(List.getElem?_eq_some_iff.1 hk).1
        have qH:len*(m+1)<=k*(m+1):=Nat.mul_le_mul_right _ (by omega)
        have qJ:k*(m+1)+j-len*(m+1)=(k-r.rows.length)*(m+1)+j:=by
         rw[<-c3,Nat.sub_mul];omega
        obtain⟨u,hu,xU⟩:=q3.2 _ _ (flat_get hl hk hj)
        refine⟨u,?_,xU⟩
        have FL:news[(k-r.rows.length)*(m+1)+j]? =some u:=by simpa using hu
        have dZ:=(List.getElem?_eq_some_iff.1 FL).1
        rw[List.append_assoc,List.getElem?_append_right (by simp only[List.length_take,nf];omega),List.getElem?_append_left (by simp only[List.length_take,nf];omega)]
        rw[<-FL]
        congr 1
        simp only[List.length_take,nf]
        omega)
     have eH:bL (cD (bL g i0 ⟨true,m+1,r.rows++ys⟩) i0) id ⟨true,m+1,r.rows++ys⟩=bL (cD g i0) id ⟨true,m+1,r.rows++ys⟩:=by
      funext q;simp only[bL,cD]
      by_cases h:q=id<;>by_cases h':q=i0<;>simp[h,h']
     have GQ:=P1.rename (i:=i0) (id:=id) (r:=⟨true,m+1,r.rows++ys⟩) (by simp[bL]) rfl hB hn
     rw[eH]at GQ
     refine⟨_,_,_,.inl (gm ho (by rw[ex,ey];exact gr)),P2.trans ⟨Below.refl _ _,fun _ _=>rfl,fun _ h=>h,fo hn,fun _ h=>.inl h⟩,GQ,?_,fun _ h=>gx h⟩
     exact .own _ _ _ _ _ B (ez _ _ _) hk gi (.inr (by simp)) h3 h4
    ·
     have holds:∃uG:List Value,uG.length=len*(m+1)/\(∀j v,uG[j]? =some v->w.cell? ⟨B.b,oo+j,none⟩=some v)/\fy P w D ι r.rows.flatten uG.toArray:=by
      obtain⟨A2,c2',e2,h2⟩:=se (sz:=m+1) (u:=.slice (some ⟨B.b,oo,none⟩) len cap) S (.own i0 0 len oo cap B hB hk h1 CT h3 h4) (ys:=r.rows) (by simp[bx,hg,c3]) (fun cs h=>by rw[<-c2];exact R.len cs h) R.flat
      rcases h2 with h2|⟨b2,o2,uG,rfl,p1,p2,p3,_⟩
      ·refine⟨[],by simp[c3,h2],fun j v h=>by simp at h,by rw[h2];exact⟨rfl,fun j a h=>by simp at h⟩⟩
      ·injection e2 with e2 _ _
       injection e2 with e2
       injection e2 with e21 e22 _
       subst e21;subst e22
       exact⟨uG,by rw[p1,c3],p2,p3⟩
     obtain⟨uG,p1,p2,p3⟩:=holds
     have gr:=run_append_grow (P:=P) w t o.type e i zv ht hi qf ⟨B.b,oo,none⟩ len cap uG (by rw[jJ];exact p1) (fun j v hj=>by rw[kn];exact p2 j v hj) ⟨yb,yo,none⟩ ys.length c news (by rw[jJ];exact q1) (fun j v hj=>by rw[kn];exact q2 j v hj) (by omega) (e63 _ c4) (growslice_fits (by omega) (fits _ c4))
     obtain⟨g1,g2⟩:=BA w (len+ys.length) cap e c4
     have dy:(uG.toArray++news.toArray++Builtin.zeroCells zv.cells (grownCap w (len+ys.length) cap e-(len+ys.length))).size=grownCap w (len+ys.length) cap e*(m+1):=by
      rw[Array.size_append,Array.size_append,size_zeroCells,QI,jJ]
      simp only[List.size_toArray,q1,p1]
      rw[<-Nat.add_mul,<-Nat.add_mul];congr 1;omega
     have S1:=(S.kill i0).alloc (id:=id) (w':=w.drew.alloc (.cells (uG.toArray++news.toArray++Builtin.zeroCells zv.cells (grownCap w (len+ys.length) cap e-(len+ys.length))) e)) (r:=⟨true,m+1,r.rows++ys⟩) rfl hn rfl (by dsimp only;rw[dy,List.length_append,<-c3];exact Nat.mul_le_mul_right _ g1) zU M8
      (fun k j cs b2 hk hj=>by
       have Ji:=flat_get zU hk hj
       rw[List.flatten_append]at Ji
       have LU:uG.length=r.rows.flatten.length:=by have:=p3.1;simpa using this
       dsimp only
       by_cases dZ:k*(m+1)+j<r.rows.flatten.length
       ·rw[List.getElem?_append_left dZ]at Ji
        obtain⟨u,hu,xU⟩:=p3.2 _ _ Ji
        refine⟨u,?_,xU⟩
        rw[Array.getElem?_append_left (by simp;omega),Array.getElem?_append_left (by simp;omega)];exact hu
       ·rw[List.getElem?_append_right (by omega)]at Ji
        obtain⟨u,hu,xU⟩:=q3.2 _ _ Ji
        refine⟨u,?_,xU⟩
        have BJ:=(Array.getElem?_eq_some_iff.1 hu).1
        simp only[List.size_toArray]at BJ
        rw[Array.getElem?_append_left (by simp;omega),Array.getElem?_append_right (by simp;omega)]
        simp only[List.size_toArray,LU];exact hu)
     have dK:=CC (T:=e) S (uG.toArray++news.toArray++Builtin.zeroCells zv.cells (grownCap w (len+ys.length) cap e-(len+ys.length))) hn ⟨w.heap.size,m+1,(uG.toArray++news.toArray++Builtin.zeroCells zv.cells (grownCap w (len+ys.length) cap e-(len+ys.length))).size,none⟩
     refine⟨_,_,_,.inl (gm ho (by rw[ex,ey];exact gr)),dK,S1,?_,fun _ h=>gx h⟩
     refine .own _ _ _ _ _ _ (ez _ _ _) rfl g1 (.inr (by simp)) ?_ g2
     dsimp only;rw[dy];simp
  ·simp at hv
 ·simp at hv
theorem lh {x:Operand} {t:TypeId} {u:Value} (ho:o.op=.call {callee:=.builtin .clear,args:= #[x],argTypes:= #[t]}) (h:(Builtin.clear_ #[t] o.type #[a.eval x]).run P w=.ok u w'):(execOp a.eval o).run P w=.ok (.value u) w':=by
 simp only[execOp,ho,resolve,Sem.run_bind,Sem.run_pure,Result.andThen_ok,invoke,builtin]
 simp only[List.map_toArray,List.map_cons,List.map_nil]
 rw[h];rfl
theorem Ly {x:Operand} {x':O} {t e:TypeId} {m:Nat} {z:List K} {g':Rows} (S:gF P hs D ι g w) (E:cE P w D ι env a) (ho:o.op=.call {callee:=.builtin .clear,args:= #[x],argTypes:= #[t]})
  (ht:P.underlying t=some (.slice e)) (fA:eA P e=some (m+1)) (hz:jM P e=some z) (hx:cO P x=some x') (hv:bV g z (dj env x')=some g'):C7 P hs a o w D ι id .undef g':=by
 have rx:=dt E hx
 obtain⟨it,zv,hi,qf,QI,hm,FO⟩:=j0 hz
 have jJ:it.size=m+1:=by simpa[eA,hi]using fA
 unfold bV at hv
 split at hv
 ·rename_i hb
  rw[hb]at rx
  simp at hv;subst hv
  refine⟨undef,w,ι,.inl (lh ho (by rw[kj rx];simp only[Builtin.clear_,Sem.run_bind];simp[run_underlying ht,undef])),Step.refl _ _ _ _,S,cL.undef,fun _ _=>rfl⟩
 ·rename_i i off len hb
  rw[hb]at rx
  simp only[Option.bind_eq_some_iff]at hv
  obtain⟨r,hg,hv⟩:=hv
  split at hv
  ·rename_i hc
   obtain⟨c1,c2,c3⟩:=hc
   simp only[Option.some.injEq]at hv;subst hv
   obtain⟨oo,cap,B,ex,hB,h1,h2,h3,h4,hk⟩:=iW rx
   obtain⟨B',dH,R,kq,mh⟩:=S.row _ _ hg
   rw[hB]at dH;injection dH with dH;subst dH
   replace R:=R.row hk
   obtain⟨cur,T,hblk,hC,wG⟩:=R.cur
   by_cases h0:len=0
   ·subst h0
    have e1:({r with rows:=r.rows.take off++List.replicate 0 (z.map K.av)++r.rows.drop (off+0)}:Row)=r:=by cases r;simp
    rw[e1]
    have e2:bL g i r=g:=by
     funext q;unfold bL;split
     ·rename_i h;rw[h,hg]
     ·rfl
    rw[e2]
    refine⟨undef,w,ι,.inl (lh ho (by rw[ex];simp only[Builtin.clear_,Sem.run_bind];simp[run_underlying ht,undef])),Step.refl _ _ _ _,S,cL.undef,fun _ _=>rfl⟩
   ·have C0:oo=off*B.sz:=by rcases h2 with h2|h2<;>omega
    have I8:B.sz=m+1:=by rw[R.sz,c2,FO,jJ]
    have yG:r.sz=m+1:=by rw[<-R.sz,I8]
    have R5:zv.cells.size=m+1:=by rw[QI,jJ]
    have yI:(Builtin.zeroCells zv.cells len).toList.length=len*(m+1):=by rw[Array.length_toList,size_zeroCells,R5]
    have R4:∀k,k<len*(m+1)->∃c,z[k % z.length]? =some c/\(Builtin.zeroCells zv.cells len).toList[k]? =some c.val:=fun k hk=>by
     obtain⟨c,mN,xP⟩:=pk (n:=len*zv.cells.size) hm (by rw[FO,jJ];omega) k (by rw[R5];exact hk)
     exact⟨c,mN,by rw[Array.getElem?_toList];exact xP⟩
    have hbound:(off+len)*(m+1)<=r.rows.length*(m+1):=Nat.mul_le_mul_right _ c3
    have BH:=R.fits
    rw[yG]at BH
    have UR:(off+len)*(m+1)=off*(m+1)+len*(m+1):=Nat.add_mul _ _ _
    have dK:=run_storeCells_at P B.b oo T (Builtin.zeroCells zv.cells len).toList 0 cur w hblk (by rw[yI,hC,C0,I8];omega) (by
     intro v hv
     obtain⟨k,hk,rfl⟩:=List.getElem_of_mem hv
     obtain⟨c,_,xP⟩:=R4 k (by rw[<-yI];exact hk)
     rw[List.getElem?_eq_getElem hk]at xP
     injection xP with xP
     rw[xP];cases c<;>rfl)
    simp only[Nat.add_zero]at dK
    have nf:cur.toList.length=cur.size:=Array.length_toList
    obtain⟨P1,P2⟩:=S.put (r':={r with rows:=r.rows.take off++List.replicate len (z.map K.av)++r.rows.drop (off+len)}) hg c1 hB hblk (cur':=(cur.toList.take oo++(Builtin.zeroCells zv.cells len).toList++cur.toList.drop (oo+(Builtin.zeroCells zv.cells len).toList.length)).toArray)
     (by simp only[List.size_toArray,List.length_append,List.length_take,List.length_drop,nf,yI];rw[C0,I8];omega) c1 rfl (by
      have:(r.rows.take off++List.replicate len (z.map K.av)++r.rows.drop (off+len)).length=r.rows.length:=by simp;omega
      dsimp only;rw[this];exact R.fits) (fun cs dy=>by
      rcases List.mem_append.1 dy with h|h
      ·rcases List.mem_append.1 h with h|h
       ·exact R.len cs (List.mem_of_mem_take h)
       ·rw[List.eq_of_mem_replicate h];simp[c2]
      ·exact R.len cs (List.mem_of_mem_drop h)) (fun cs dy b hb=>by
      rcases List.mem_append.1 dy with h|h
      ·rcases List.mem_append.1 h with h|h
       ·exact R.flat cs (List.mem_of_mem_take h) b hb
       ·rw[List.eq_of_mem_replicate h]at hb
        obtain⟨c,_,rfl⟩:=List.mem_map.1 hb;exact c.mW
      ·exact R.flat cs (List.mem_of_mem_drop h) b hb) (fun k j cs b hk hj=>by
      simp only[List.getElem?_toArray]
      rw[yG]
      rw[C0,I8,yI]
      by_cases xC:k<off
      ·rw[List.append_assoc,List.getElem?_append_left (by simp;omega),List.getElem?_take,if_pos xC]at hk
       have iq:j<m+1:=by rw[<-yG,<-R.len cs (List.mem_of_getElem? hk)];exact(List.getElem?_eq_some_iff.1 hj).1
       have h2:=jW xC iq
       rw[List.append_assoc,List.getElem?_append_left (by simp only[List.length_take,nf];omega),List.getElem?_take,if_pos h2]
       have:=wG k j cs b hk hj
       rw[yG]at this;simpa using this
      ·by_cases wI:k<off+len
       ·rw[List.append_assoc,List.getElem?_append_right (by simp;omega),List.getElem?_append_left (by simp;omega)]at hk
        have gS:=List.eq_of_mem_replicate (List.mem_of_getElem? hk)
        subst gS
        simp only[List.getElem?_map,Option.map_eq_some_iff]at hj
        obtain⟨q,hq,rfl⟩:=hj
        have iq:=(List.getElem?_eq_some_iff.1 hq).1
        rw[FO,jJ]at iq
        have qH:off*(m+1)<=k*(m+1):=Nat.mul_le_mul_right _ (by omega)
        have qJ:k*(m+1)+j-off*(m+1)=(k-off)*(m+1)+j:=by rw[Nat.sub_mul];omega
        have BJ:(k-off)*(m+1)+j<len*(m+1):=jW (by omega) iq
        rw[List.append_assoc,List.getElem?_append_right (by simp only[List.length_take,nf];omega),List.getElem?_append_left (by simp only[List.length_take,nf,yI];omega)]
        obtain⟨c,mN,xP⟩:=R4 _ BJ
        rw[FO,jJ,Nat.mul_comm (k-off),Nat.mul_add_mod,Nat.mod_eq_of_lt iq,hq]at mN
        injection mN with mN;subst mN
        refine⟨q.val,?_,w9 q⟩
        rw[<-xP]
        congr 1
        simp only[List.length_take,nf];omega
       ·rw[List.getElem?_append_right (by simp;omega)]at hk
        simp only[List.length_append,List.length_take,List.length_replicate,List.getElem?_drop]at hk
        rw[show off+len+(k-(min off r.rows.length+len))=k by omega]at hk
        have l6:=(List.getElem?_eq_some_iff.1 hk).1
        have qH:(off+len)*(m+1)<=k*(m+1):=Nat.mul_le_mul_right _ (by omega)
        rw[List.getElem?_append_right (by simp only[List.length_append,List.length_take,nf,yI];omega)]
        simp only[List.length_append,List.length_take,nf,yI,List.getElem?_drop]
        rw[show off*(m+1)+len*(m+1)+(k*(m+1)+j-(min (off*(m+1)) cur.size+len*(m+1)))=k*(m+1)+j by omega]
        have:=wG k j cs b hk hj
        rw[yG]at this;simpa using this)
    refine⟨undef,_,ι,.inl (lh ho ?_),P2,P1,cL.undef,fun _ _=>rfl⟩
    rw[ex]
    cases len with
    |zero=>exact(h0 rfl).elim
    |succ len=>
     simp only[Builtin.clear_,Sem.run_bind]
     simp[run_underlying ht,zeroValue,typeInfo,hi,qf,dK,undef]
  ·simp at hv
 ·simp at hv
theorem Hy {dT sT ty e:TypeId} {it:TypeInfo} (hu:P.underlying dT=some (.slice e)) (hi:P.info? e=some it) (A B:Option Addr) (si EM Gx N5:Nat) (h0:Nat.min si Gx=0):
  (Builtin.copy_ #[dT,sT] ty #[.slice A Gx N5,.slice B si EM]).run P w=.ok (goInt 0) w:=by
 cases A<;>cases B<;>simp[Builtin.copy_,run_underlying hu,Builtin.lenOf,Builtin.firstCells,sizeOf,typeInfo,hi,h0,storeCells,loadCells,loadCellsFrom]
theorem Hz {dT sT ty e:TypeId} {it:TypeInfo} (hu:P.underlying dT=some (.slice e)) (hi:P.info? e=some it) (A B:Addr) (si EM Gx N5:Nat) (cs:List Value) (hn:cs.length=Nat.min si Gx*it.size) (hl:(loadCells B cs.length).run P w=.ok cs.toArray w) (hs:(storeCells A cs).run P w=.ok () w'):
  (Builtin.copy_ #[dT,sT] ty #[.slice (some A) Gx N5,.slice (some B) si EM]).run P w=.ok (goInt (Nat.min si Gx)) w':=by
 simp[Builtin.copy_,run_underlying hu,Builtin.lenOf,Builtin.firstCells,sizeOf,typeInfo,hi,<-hn,hl,hs]
theorem qh {x y:Operand} {t t2:TypeId} {u:Value} (ho:o.op=.call {callee:=.builtin .copy,args:= #[x,y],argTypes:= #[t,t2]}) (h:(Builtin.copy_ #[t,t2] o.type #[a.eval x,a.eval y]).run P w=.ok u w'):(execOp a.eval o).run P w=.ok (.value u) w':=by
 simp only[execOp,ho,resolve,Sem.run_bind,Sem.run_pure,Result.andThen_ok,invoke,builtin]
 simp only[List.map_toArray,List.map_cons,List.map_nil]
 rw[h];rfl
theorem N6 {x y:Operand} {x' y':O} {t t2 e:TypeId} {m:Nat} {ys:List (List AV)} {v:AV} {g':Rows} (S:gF P hs D ι g w) (E:cE P w D ι env a) (ho:o.op=.call {callee:=.builtin .copy,args:= #[x,y],argTypes:= #[t,t2]})
  (ht:P.underlying t=some (.slice e)) (fA:eA P e=some (m+1)) (hx:cO P x=some x') (hy:cO P y=some y') (FN:bx g (dj env y')=some ys) (hv:Ga g (m+1) (dj env x') ys=some (v,g')):C7 P hs a o w D ι id v g':=by
 have rx:=dt E hx
 have ry:=dt E hy
 obtain⟨it,hi,jJ⟩:∃it,P.info? e=some it/\it.size=m+1:=by
  cases hq:P.info? e with
  |none=>simp[eA,hq]at fA
  |some it=>exact⟨it,rfl,by simpa[eA,hq]using fA⟩
 unfold Ga at hv
 split at hv
 ·rename_i i off len hb
  rw[hb]at rx
  simp only[Option.bind_eq_some_iff]at hv
  obtain⟨r,hg,hv⟩:=hv
  split at hv
  ·rename_i hc
   obtain⟨c1,c2,c3,c4⟩:=hc
   simp only[Option.some.injEq,Prod.mk.injEq]at hv
   obtain⟨rfl,rfl⟩:=hv
   rw[List.all_eq_true]at c4
   have hl:∀c∈ys,c.length=m+1:=fun c hc=>by have:=c4 c hc;simp at this;exact this.1
   have hf:∀c∈ys,∀b∈c,b.cell=true:=fun c hc b hb=>by have:=c4 c hc;simp at this;exact this.2 b hb
   obtain⟨oo,cap,B,ex,hB,h1,h2,h3,h4,hk⟩:=iW rx
   obtain⟨B',dH,R,kq,mh⟩:=S.row _ _ hg
   rw[hB]at dH;injection dH with dH;subst dH
   replace R:=R.row hk
   obtain⟨cur,T,hblk,hC,wG⟩:=R.cur
   obtain⟨A,sc,hu,hA⟩:=se S ry FN hl hf
   by_cases h0:min ys.length len=0
   ·rw[h0]
    have e1:({r with rows:=r.rows.take off++ys.take 0++r.rows.drop (off+0)}:Row)=r:=by cases r;simp
    rw[e1]
    have e2:bL g i r=g:=by
     funext q;unfold bL;split
     ·rename_i h;rw[h,hg]
     ·rfl
    rw[e2]
    refine⟨goInt 0,w,ι,.inl (qh ho (by rw[ex,hu];exact Hy ht hi _ _ _ _ _ _ h0)),Step.refl _ _ _ _,S,.eT _ _ (.int _ _),fun _ _=>rfl⟩
   ·rcases hA with rfl|⟨b,o2,news,rfl,CZ,hsrc,hR,h1c⟩
    ·simp at h0
    have RA:Nat.min ys.length len=min ys.length len:=rfl
    have hky:min ys.length len<=ys.length:=Nat.min_le_left _ _
    have l6:min ys.length len<=len:=Nat.min_le_right _ _
    generalize U5:min ys.length len=kk at *
    have hlen0:len≠0:=by omega
    have C0:oo=off*B.sz:=by rcases h2 with h2|h2<;>omega
    have I8:B.sz=m+1:=by rw[R.sz,c2]
    have yG:r.sz=m+1:=c2
    have Tj:kk*(m+1)<=ys.length*(m+1):=Nat.mul_le_mul_right _ hky
    have yI:(news.take (kk*(m+1))).length=kk*(m+1):=by rw[List.length_take,CZ];omega
    have hbound:(off+kk)*(m+1)<=r.rows.length*(m+1):=Nat.mul_le_mul_right _ (by omega)
    have BH:=R.fits
    rw[yG]at BH
    have UR:(off+kk)*(m+1)=off*(m+1)+kk*(m+1):=Nat.add_mul _ _ _
    have dK:=run_storeCells_at P B.b oo T (news.take (kk*(m+1))) 0 cur w hblk (by rw[yI,hC,C0,I8];omega) (fun v hv=>h1c v (List.mem_of_mem_take hv))
    have Tm:=run_loadCells_list (P:=P) w ⟨b,o2,none⟩ (news.take (kk*(m+1))) (fun j v hj=>by
     rw[List.getElem?_take]at hj
     split at hj
     ·have:=hsrc j v hj
      cases j with
      |zero=>simpa[Addr.add]using this
      |succ j=>simpa[Addr.add]using this
     ·cases hj)
    simp only[Nat.add_zero]at dK
    have nf:cur.toList.length=cur.size:=Array.length_toList
    have FK:(ys.take kk).length=kk:=by rw[List.length_take];omega
    obtain⟨P1,P2⟩:=S.put (r':={r with rows:=r.rows.take off++ys.take kk++r.rows.drop (off+kk)}) hg c1 hB hblk (cur':=(cur.toList.take oo++news.take (kk*(m+1))++cur.toList.drop (oo+(news.take (kk*(m+1))).length)).toArray)
     (by simp only[List.size_toArray,List.length_append,List.length_drop,nf,yI];rw[List.length_take,nf,C0,I8];omega) c1 rfl (by
      have:(r.rows.take off++ys.take kk++r.rows.drop (off+kk)).length=r.rows.length:=by simp;omega
      dsimp only;rw[this];exact R.fits) (fun cs dy=>by
      rcases List.mem_append.1 dy with h|h
      ·rcases List.mem_append.1 h with h|h
       ·exact R.len cs (List.mem_of_mem_take h)
       ·rw[hl cs (List.mem_of_mem_take h)];exact c2.symm
      ·exact R.len cs (List.mem_of_mem_drop h)) (fun cs dy b hb=>by
      rcases List.mem_append.1 dy with h|h
      ·rcases List.mem_append.1 h with h|h
       ·exact R.flat cs (List.mem_of_mem_take h) b hb
       ·exact hf cs (List.mem_of_mem_take h) b hb
      ·exact R.flat cs (List.mem_of_mem_drop h) b hb) (fun k j cs b hk hj=>by
      simp only[List.getElem?_toArray]
      rw[yG]
      rw[C0,I8,yI]
      by_cases xC:k<off
      ·rw[List.append_assoc,List.getElem?_append_left (by simp;omega),List.getElem?_take,if_pos xC]at hk
       have iq:j<m+1:=by rw[<-yG,<-R.len cs (List.mem_of_getElem? hk)];exact(List.getElem?_eq_some_iff.1 hj).1
       have h2:=jW xC iq
       rw[List.append_assoc,List.getElem?_append_left (by simp only[List.length_take,nf];omega),List.getElem?_take,if_pos h2]
       have:=wG k j cs b hk hj
       rw[yG]at this;simpa using this
      ·by_cases wI:k<off+kk
       ·rw[List.append_assoc,List.getElem?_append_right (by simp;omega),List.getElem?_append_left (by simp;omega)]at hk
        simp only[List.length_take]at hk
        rw[show k-min off r.rows.length=k-off by omega,List.getElem?_take,if_pos (by omega)]at hk
        have iq:j<m+1:=by rw[<-hl cs (List.mem_of_getElem? hk)];exact(List.getElem?_eq_some_iff.1 hj).1
        have qH:off*(m+1)<=k*(m+1):=Nat.mul_le_mul_right _ (by omega)
        have qJ:k*(m+1)+j-off*(m+1)=(k-off)*(m+1)+j:=by rw[Nat.sub_mul];omega
        have BJ:(k-off)*(m+1)+j<kk*(m+1):=jW (by omega) iq
        rw[List.append_assoc,List.getElem?_append_right (by simp only[List.length_take,nf];omega),List.getElem?_append_left (by rw[yI];simp only[List.length_take,nf];omega)]
        obtain⟨u,RT,hu2⟩:=hR.2 ((k-off)*(m+1)+j) b (flat_get hl hk hj)
        refine⟨u,?_,hu2⟩
        rw[List.getElem?_take]
        simp only[List.length_take,nf]
        rw[show k*(m+1)+j-min (off*(m+1)) cur.size=(k-off)*(m+1)+j by omega,if_pos BJ]
        simpa using RT
       ·rw[List.getElem?_append_right (by simp;omega)]at hk
        simp only[List.length_append,List.length_take,List.getElem?_drop]at hk
        rw[show off+kk+(k-(min off r.rows.length+min kk ys.length))=k by omega]at hk
        have l6:=(List.getElem?_eq_some_iff.1 hk).1
        have qH:(off+kk)*(m+1)<=k*(m+1):=Nat.mul_le_mul_right _ (by omega)
        rw[List.getElem?_append_right (by rw[List.length_append,yI];simp only[List.length_take,nf];omega)]
        rw[List.getElem?_drop,List.length_append,yI]
        simp only[List.length_take,nf]
        rw[show off*(m+1)+kk*(m+1)+(k*(m+1)+j-(min (off*(m+1)) cur.size+kk*(m+1)))=k*(m+1)+j by omega]
        have:=wG k j cs b hk hj
        rw[yG]at this;simpa using this)
    refine⟨goInt kk,_,ι,.inl (qh ho ?_),P2,P1,.eT _ _ (.int _ _),fun _ _=>rfl⟩
    rw[ex,hu]
    have:=Hz (w:=w) (sT:=t2) (ty:=o.type) ht hi ⟨B.b,oo,none⟩ ⟨b,o2,none⟩ ys.length sc len cap _ (by rw[yI,RA,jJ]) Tm dK
    rw[RA]at this
    exact this
  ·simp at hv
 ·simp at hv
end
end Go.Proofs.YtgoelphibofcmaaGreat.V

namespace Go.Proofs.YtgoelphibofcmaaGreat.V
open Go.RowKit
variable {P:Program} {w w':World} {D D' D2:Nat->Prop} {ι ι' ι2:Names}
section
variable {g:Rows} {hs:Nat}
theorem gL:∀{n:Nat} {l r:List AV},dn g n l=some r->r.length=l.length/\∀(j:Nat) (b:AV),r[j]? =some b->∃a,l[j]? =some a/\fz g n a=some b
 |n,[],r,h=>by
  rw[dn]at h;simp at h;subst h;simp
 |n,a::l,r,h=>by
  rw[dn]at h
  split at h
  ·rename_i b hb
   simp only[Option.map_eq_some_iff]at h
   obtain⟨r',hr,rfl⟩:=h
   obtain⟨h1,h2⟩:=gL hr
   refine⟨by simp[h1],fun j c hj=>?_⟩
   cases j with
   |zero=>simp at hj;subst hj;exact⟨a,rfl,hb⟩
   |succ j=>simp at hj ⊢;exact h2 j c hj
  ·simp at h
theorem wm:∀{n:Nat} {l r:List (List AV)},eC g n l=some r->r.length=l.length/\∀(j:Nat) (b:List AV),r[j]? =some b->∃a,l[j]? =some a/\dn g n a=some b
 |n,[],r,h=>by
  rw[eC]at h;simp at h;subst h;simp
 |n,a::l,r,h=>by
  rw[eC]at h
  split at h
  ·rename_i b hb
   simp only[Option.map_eq_some_iff]at h
   obtain⟨r',hr,rfl⟩:=h
   obtain⟨h1,h2⟩:=wm hr
   refine⟨by simp[h1],fun j c hj=>?_⟩
   cases j with
   |zero=>simp at hj;subst hj;exact⟨a,rfl,hb⟩
   |succ j=>simp at hj ⊢;exact h2 j c hj
  ·simp at h
theorem rJ (hD:∀b,D b->D2 b) (xI:∀id row,g id=some row->row.w=true->∃B,ι id=some B/\gT P w D ι B row/\D2 B.b):∀(n:Nat) (a:AV) (u:Value) (r:AV),cL P w D ι a u->fz g n a=some r->cL P w D2 ι2 r u/\(a.cell=true->jQ P w D2 r u/\r.cell=true):=by
 intro n
 induction n with
 |zero=>intro a u r _ h;rw[fz]at h;simp at h
 |succ n ih=>
  intro a u r hr h
  have both:∀{r:AV},jQ P w D2 r u->r.cell=true->cL P w D2 ι2 r u/\(a.cell=true->jQ P w D2 r u/\r.cell=true):=fun h1 h2=>⟨.eT _ _ h1,fun _=>⟨h1,h2⟩⟩
  cases a with
  |map id m=>rw[fz]at h;cases h
  |rF id=>rw[fz]at h;cases h
  |own id off len=>
   rw[fz]at h
   split at h
   ·rename_i row hg
    split at h
    ·rename_i hw
     split at h
     ·rename_i hle
      simp only[Option.map_eq_some_iff]at h
      obtain⟨rows,oM,rfl⟩:=h
      obtain⟨B,hB,R,Om⟩:=xI id row hg hw
      obtain⟨o,cap,B',rfl,dH,h1,h2,h3,h4,hk⟩:=iW hr
      rw[hB]at dH;injection dH with dH;subst dH
      replace R:=R.row hk
      obtain⟨l1,l2⟩:=wm oM
      have hlen:rows.length=len:=by rw[l1];simp;omega
      by_cases h0:rows=[]
      ·subst h0
       simp at hlen;subst hlen
       exact both (.AR _ _ h4) rfl
      ·have hlp:0<len:=by rw[<-hlen];exact List.length_pos_iff.2 h0
       have ho:o=off*B.sz:=by rcases h2 with h2|h2<;>omega
       have src:∀i cs,rows[i]? =some cs->∃c0,row.rows[off+i]? =some c0/\dn g n c0=some cs:=fun i cs hi=>by
        obtain⟨c0,jN,hf⟩:=l2 i cs hi
        rw[List.getElem?_take]at jN
        split at jN
        ·rw[List.getElem?_drop]at jN;exact⟨c0,jN,hf⟩
        ·simp at jN
       have cell:∀i j,i<len->j<row.sz->∃c0 a0 v,row.rows[off+i]? =some c0/\c0[j]? =some a0/\w.cell? ⟨B.b,o+(i*row.sz+j),none⟩=some v/\cL P w D ι a0 v:=fun i j hi hj=>by
        have qZ:off+i<row.rows.length:=by omega
        have e1:=List.getElem?_eq_getElem qZ
        have K7:j<row.rows[off+i].length:=by rw[R.len _ (List.getElem_mem qZ)];exact hj
        obtain⟨v,hv,lI⟩:=R.at_ _ _ _ _ e1 (List.getElem?_eq_getElem K7)
        refine⟨_,_,v,e1,List.getElem?_eq_getElem K7,?_,lI⟩
        rw[ho,R.sz,<-hv]
        congr 2
        rw[Nat.add_mul];omega
       refine both (.sl rows B.b o len cap row.sz (fun i j=>(w.cell? ⟨B.b,o+(i*row.sz+j),none⟩).getD undef) hlen h1 h4 Om (fun cs dy=>?_) (fun cs dy b hb=>?_) (fun i j hi hj=>?_) (fun i j cs b hi hj=>?_)) rfl
       ·obtain⟨i,hi,rfl⟩:=List.getElem_of_mem dy
        obtain⟨c0,jN,hf⟩:=src i _ (List.getElem?_eq_getElem hi)
        rw[(gL hf).1];exact R.len c0 (List.mem_of_getElem? jN)
       ·obtain⟨i,hi,rfl⟩:=List.getElem_of_mem dy
        obtain⟨c0,jN,hf⟩:=src i _ (List.getElem?_eq_getElem hi)
        obtain⟨j,hj,rfl⟩:=List.getElem_of_mem hb
        obtain⟨a0,lq,Jh⟩:=(gL hf).2 j _ (List.getElem?_eq_getElem hj)
        obtain⟨v,_,lI⟩:=R.at_ _ _ _ _ jN lq
        exact((ih _ _ _ lI Jh).2 (R.flat c0 (List.mem_of_getElem? jN) a0 (List.mem_of_getElem? lq))).2
       ·obtain⟨c0,a0,v,_,_,hv,_⟩:=cell i j hi hj
        simp only[hv,Option.getD_some]
       ·obtain⟨c0,jN,hf⟩:=src i cs hi
        obtain⟨a0,lq,Jh⟩:=(gL hf).2 j b hj
        have kN:i<len:=by rw[<-hlen];exact(List.getElem?_eq_some_iff.1 hi).1
        have iq:j<row.sz:=by rw[<-R.len c0 (List.mem_of_getElem? jN)];exact(List.getElem?_eq_some_iff.1 lq).1
        obtain⟨c1,a1,v,e1,e2,hv,lI⟩:=cell i j kN iq
        rw[jN]at e1;injection e1 with e1;subst e1
        rw[lq]at e2;injection e2 with e2;subst e2
        simp only[hv,Option.getD_some]
        exact((ih _ _ _ lI Jh).2 (R.flat c0 (List.mem_of_getElem? jN) a0 (List.mem_of_getElem? lq))).1
     ·simp at h
    ·simp at h
   ·simp at h
  |ptr id i off=>
   rw[fz]at h
   split at h
   ·rename_i row hg
    split at h
    ·rename_i hw
     split at h
     ·rename_i c0 jN
      simp only[Option.map_eq_some_iff]at h
      obtain⟨cs,dy,rfl⟩:=h
      obtain⟨B,hB,R,Om⟩:=xI id row hg hw
      obtain⟨B',rfl,dH,hk⟩:=iJ hr
      rw[hB]at dH;injection dH with dH;subst dH
      replace R:=R.row hk
      obtain⟨l1,l2⟩:=gL dy
      have at_:∀j b,cs[j]? =some b->∃a0 v,w.cell? ⟨B.b,i*B.sz+off+j,none⟩=some v/\cL P w D ι a0 v/\a0.cell=true/\fz g n a0=some b:=fun j b hj=>by
       obtain⟨a0,lq,hf⟩:=l2 j b hj
       rw[List.getElem?_drop]at lq
       obtain⟨v,hv,lI⟩:=R.at_ _ _ _ _ jN lq
       refine⟨a0,v,?_,lI,R.flat c0 (List.mem_of_getElem? jN) a0 (List.mem_of_getElem? lq),hf⟩
       rw[R.sz,Nat.add_assoc];exact hv
      refine both (.dq cs B.b _ (fun j=>(w.cell? ⟨B.b,i*B.sz+off+j,none⟩).getD undef) Om (fun b hb=>?_) (fun j hj=>?_) (fun j b hj=>?_)) rfl
      ·obtain⟨j,hj,rfl⟩:=List.getElem_of_mem hb
       obtain⟨a0,v,_,lI,hc,hf⟩:=at_ j _ (List.getElem?_eq_getElem hj)
       exact((ih _ _ _ lI hf).2 hc).2
      ·obtain⟨a0,v,hv,_⟩:=at_ j _ (List.getElem?_eq_getElem hj)
       simp only[hv,Option.getD_some]
      ·obtain⟨a0,v,hv,lI,hc,hf⟩:=at_ j b hj
       simp only[hv,Option.getD_some]
       exact((ih _ _ _ lI hf).2 hc).1
     ·simp at h
    ·simp at h
   ·simp at h
  |agg cs=>
   rw[fz]at h
   simp only[Option.map_eq_some_iff]at h
   obtain⟨r',od,rfl⟩:=h
   obtain⟨vs,f,rfl,h1,h2,h3,h4⟩:=iV hr
   obtain⟨l1,l2⟩:=gL od
   have hI:jQ P w D2 (.agg r') (.agg vs):=.agg r' vs f (by rw[h1,l1]) (fun b hb=>by
    obtain⟨j,hj,rfl⟩:=List.getElem_of_mem hb
    obtain⟨a0,lq,hf⟩:=l2 j _ (List.getElem?_eq_getElem hj)
    exact((ih _ _ _ (h4 j a0 lq) hf).2 (h2 a0 (List.mem_of_getElem? lq))).2) (fun j hj=>h3 j (by rw[<-l1];exact hj)) (fun j b hj=>by
    obtain⟨a0,lq,hf⟩:=l2 j b hj
    exact((ih _ _ _ (h4 j a0 lq) hf).2 (h2 a0 (List.mem_of_getElem? lq))).1)
   exact⟨.eT _ _ hI,fun hc=>by simp[AV.cell]at hc⟩
  |gE cs=>
   rw[fz]at h
   simp only[Option.map_eq_some_iff]at h
   obtain⟨r',od,rfl⟩:=h
   obtain⟨vs,f,rfl,h1,h3,h4⟩:=vd hr
   obtain⟨l1,l2⟩:=gL od
   exact⟨.gE r' vs f (by rw[h1,l1]) (fun j hj=>h3 j (by rw[<-l1];exact hj)) (fun j b hj=>by
    obtain⟨a0,lq,hf⟩:=l2 j b hj
    exact(ih _ _ _ (h4 j a0 lq) hf).1),fun hc=>by simp[AV.cell]at hc⟩
  |fn f di=>
   rw[fz]at h
   split at h
   ·rename_i dC
    simp only[Option.map_eq_some_iff]at h
    obtain⟨r',od,rfl⟩:=h
    obtain⟨vs,q,rfl,h0,h1,h3,h4⟩:=Af hr
    obtain⟨l1,l2⟩:=gL od
    exact both (.fn f r' vs q h0 (by rw[h1,l1]) (fun j hj=>h3 j (by rw[<-l1];exact hj)) (fun j b hj=>by
     obtain⟨a0,lq,hf⟩:=l2 j b hj
     exact((ih _ _ _ (h4 j a0 lq) hf).2 (List.all_eq_true.1 dC a0 (List.mem_of_getElem? lq))).1)) rfl
   ·simp at h
  |int k m=>rw[fz]at h<;>(try simp at h)<;>(try subst h)<;>(try(rw[dz hr];exact⟨.eT _ _ (.int _ _),fun _=>⟨.int _ _,rfl⟩⟩))<;>(try(intros;simp_all))
  |bool b=>rw[fz]at h<;>(try simp at h)<;>(try subst h)<;>(try(rw[fm hr];exact⟨.eT _ _ (.bool _),fun _=>⟨.bool _,rfl⟩⟩))<;>(try(intros;simp_all))
  |str b=>rw[fz]at h<;>(try simp at h)<;>(try subst h)<;>(try(rw[fI hr];exact⟨.eT _ _ (.str _),fun _=>⟨.str _,rfl⟩⟩))<;>(try(intros;simp_all))
  |bE=>rw[fz]at h<;>(try simp at h)<;>(try subst h)<;>(try(rw[kj hr];exact⟨.eT _ _ .bE,fun _=>⟨.bE,rfl⟩⟩))<;>(try(intros;simp_all))
  |je=>rw[fz]at h<;>(try simp at h)<;>(try subst h)<;>(try(rw[xb hr];exact⟨.eT _ _ .je,fun _=>⟨.je,rfl⟩⟩))<;>(try(intros;simp_all))
  |jo=>rw[fz]at h<;>(try simp at h)<;>(try subst h)<;>(try(rw[Cx hr];exact⟨.eT _ _ .jo,fun _=>⟨.jo,rfl⟩⟩))<;>(try(intros;simp_all))
  |ue f di=>rw[fz]at h<;>(try simp at h)<;>(try(intros;simp_all))
  |gN=>rw[fz]at h<;>(try simp at h)<;>(try subst h)<;>(try(cases hr with|eT _ _ hr=>exact both (hr.frame (fun _ _=>rfl) hD) rfl))<;>(try(intros;simp_all))
  |sl rows=>rw[fz]at h<;>(try simp at h)<;>(try subst h)<;>(try(cases hr with|eT _ _ hr=>exact both (hr.frame (fun _ _=>rfl) hD) rfl))<;>(try(intros;simp_all))
  |dq cs=>rw[fz]at h<;>(try simp at h)<;>(try subst h)<;>(try(cases hr with|eT _ _ hr=>exact both (hr.frame (fun _ _=>rfl) hD) rfl))<;>(try(intros;simp_all))
theorem jb:∀{n:Nat} {l r:List AV},eD g n l=some r->r.length=l.length/\∀(j:Nat) (b:AV),r[j]? =some b->∃a,l[j]? =some a/\gG g n a=some b
 |n,[],r,h=>by
  rw[eD]at h;simp at h;subst h;simp
 |n,a::l,r,h=>by
  rw[eD]at h
  split at h
  ·rename_i b hb
   simp only[Option.map_eq_some_iff]at h
   obtain⟨r',hr,rfl⟩:=h
   obtain⟨h1,h2⟩:=jb hr
   refine⟨by simp[h1],fun j c hj=>?_⟩
   cases j with
   |zero=>simp at hj;subst hj;exact⟨a,rfl,hb⟩
   |succ j=>simp at hj ⊢;exact h2 j c hj
  ·simp at h
theorem tV:∀{n:Nat} {l r:List (List AV)},iu g n l=some r->r.length=l.length/\∀(j:Nat) (b:List AV),r[j]? =some b->∃a,l[j]? =some a/\eD g n a=some b
 |n,[],r,h=>by
  rw[iu]at h;simp at h;subst h;simp
 |n,a::l,r,h=>by
  rw[iu]at h
  split at h
  ·rename_i b hb
   simp only[Option.map_eq_some_iff]at h
   obtain⟨r',hr,rfl⟩:=h
   obtain⟨h1,h2⟩:=tV hr
   refine⟨by simp[h1],fun j c hj=>?_⟩
   cases j with
   |zero=>simp at hj;subst hj;exact⟨a,rfl,hb⟩
   |succ j=>simp at hj ⊢;exact h2 j c hj
  ·simp at h
theorem GH (xI:∀id row,g id=some row->row.w=true->∃B,ι id=some B/\gT P w D ι B row/\D2 B.b):∀(n:Nat) (a:AV) (u:Value) (r:AV),cL P w D ι a u->gG g n a=some r->cL P w D2 ι2 r u/\(a.cell=true->jQ P w D2 r u/\r.cell=true):=by
 intro n
 induction n with
 |zero=>intro a u r _ h;rw[gG]at h;simp at h
 |succ n ih=>
  intro a u r hr h
  have both:∀{r:AV},jQ P w D2 r u->r.cell=true->cL P w D2 ι2 r u/\(a.cell=true->jQ P w D2 r u/\r.cell=true):=fun h1 h2=>⟨.eT _ _ h1,fun _=>⟨h1,h2⟩⟩
  cases a with
  |map id m=>rw[gG]at h<;>simp_all
  |rF id=>rw[gG]at h<;>simp_all
  |own id off len=>
   rw[gG]at h
   split at h
   ·rename_i row hg
    split at h
    ·rename_i hw
     split at h
     ·rename_i hle
      simp only[Option.map_eq_some_iff]at h
      obtain⟨rows,oM,rfl⟩:=h
      obtain⟨B,hB,R,Om⟩:=xI id row hg hw
      obtain⟨o,cap,B',rfl,dH,h1,h2,h3,h4,hk⟩:=iW hr
      rw[hB]at dH;injection dH with dH;subst dH
      replace R:=R.row hk
      obtain⟨l1,l2⟩:=tV oM
      have hlen:rows.length=len:=by rw[l1];simp;omega
      by_cases h0:rows=[]
      ·subst h0
       simp at hlen;subst hlen
       exact both (.AR _ _ h4) rfl
      ·have hlp:0<len:=by rw[<-hlen];exact List.length_pos_iff.2 h0
       have ho:o=off*B.sz:=by rcases h2 with h2|h2<;>omega
       have src:∀i cs,rows[i]? =some cs->∃c0,row.rows[off+i]? =some c0/\eD g n c0=some cs:=fun i cs hi=>by
        obtain⟨c0,jN,hf⟩:=l2 i cs hi
        rw[List.getElem?_take]at jN
        split at jN
        ·rw[List.getElem?_drop]at jN;exact⟨c0,jN,hf⟩
        ·simp at jN
       have cell:∀i j,i<len->j<row.sz->∃c0 a0 v,row.rows[off+i]? =some c0/\c0[j]? =some a0/\w.cell? ⟨B.b,o+(i*row.sz+j),none⟩=some v/\cL P w D ι a0 v:=fun i j hi hj=>by
        have qZ:off+i<row.rows.length:=by omega
        have e1:=List.getElem?_eq_getElem qZ
        have K7:j<row.rows[off+i].length:=by rw[R.len _ (List.getElem_mem qZ)];exact hj
        obtain⟨v,hv,lI⟩:=R.at_ _ _ _ _ e1 (List.getElem?_eq_getElem K7)
        refine⟨_,_,v,e1,List.getElem?_eq_getElem K7,?_,lI⟩
        rw[ho,R.sz,<-hv]
        congr 2
        rw[Nat.add_mul];omega
       refine both (.sl rows B.b o len cap row.sz (fun i j=>(w.cell? ⟨B.b,o+(i*row.sz+j),none⟩).getD undef) hlen h1 h4 Om (fun cs dy=>?_) (fun cs dy b hb=>?_) (fun i j hi hj=>?_) (fun i j cs b hi hj=>?_)) rfl
       ·obtain⟨i,hi,rfl⟩:=List.getElem_of_mem dy
        obtain⟨c0,jN,hf⟩:=src i _ (List.getElem?_eq_getElem hi)
        rw[(jb hf).1];exact R.len c0 (List.mem_of_getElem? jN)
       ·obtain⟨i,hi,rfl⟩:=List.getElem_of_mem dy
        obtain⟨c0,jN,hf⟩:=src i _ (List.getElem?_eq_getElem hi)
        obtain⟨j,hj,rfl⟩:=List.getElem_of_mem hb
        obtain⟨a0,lq,Jh⟩:=(jb hf).2 j _ (List.getElem?_eq_getElem hj)
        obtain⟨v,_,lI⟩:=R.at_ _ _ _ _ jN lq
        exact((ih _ _ _ lI Jh).2 (R.flat c0 (List.mem_of_getElem? jN) a0 (List.mem_of_getElem? lq))).2
       ·obtain⟨c0,a0,v,_,_,hv,_⟩:=cell i j hi hj
        simp only[hv,Option.getD_some]
       ·obtain⟨c0,jN,hf⟩:=src i cs hi
        obtain⟨a0,lq,Jh⟩:=(jb hf).2 j b hj
        have kN:i<len:=by rw[<-hlen];exact(List.getElem?_eq_some_iff.1 hi).1
        have iq:j<row.sz:=by rw[<-R.len c0 (List.mem_of_getElem? jN)];exact(List.getElem?_eq_some_iff.1 lq).1
        obtain⟨c1,a1,v,e1,e2,hv,lI⟩:=cell i j kN iq
        rw[jN]at e1;injection e1 with e1;subst e1
        rw[lq]at e2;injection e2 with e2;subst e2
        simp only[hv,Option.getD_some]
        exact((ih _ _ _ lI Jh).2 (R.flat c0 (List.mem_of_getElem? jN) a0 (List.mem_of_getElem? lq))).1
     ·simp at h
    ·simp at h
   ·simp at h
  |ptr id i off=>
   rw[gG]at h
   split at h
   ·rename_i row hg
    split at h
    ·rename_i hw
     split at h
     ·rename_i c0 jN
      simp only[Option.map_eq_some_iff]at h
      obtain⟨cs,dy,rfl⟩:=h
      obtain⟨B,hB,R,Om⟩:=xI id row hg hw
      obtain⟨B',rfl,dH,hk⟩:=iJ hr
      rw[hB]at dH;injection dH with dH;subst dH
      replace R:=R.row hk
      obtain⟨l1,l2⟩:=jb dy
      have at_:∀j b,cs[j]? =some b->∃a0 v,w.cell? ⟨B.b,i*B.sz+off+j,none⟩=some v/\cL P w D ι a0 v/\a0.cell=true/\gG g n a0=some b:=fun j b hj=>by
       obtain⟨a0,lq,hf⟩:=l2 j b hj
       rw[List.getElem?_drop]at lq
       obtain⟨v,hv,lI⟩:=R.at_ _ _ _ _ jN lq
       refine⟨a0,v,?_,lI,R.flat c0 (List.mem_of_getElem? jN) a0 (List.mem_of_getElem? lq),hf⟩
       rw[R.sz,Nat.add_assoc];exact hv
      refine both (.dq cs B.b _ (fun j=>(w.cell? ⟨B.b,i*B.sz+off+j,none⟩).getD undef) Om (fun b hb=>?_) (fun j hj=>?_) (fun j b hj=>?_)) rfl
      ·obtain⟨j,hj,rfl⟩:=List.getElem_of_mem hb
       obtain⟨a0,v,_,lI,hc,hf⟩:=at_ j _ (List.getElem?_eq_getElem hj)
       exact((ih _ _ _ lI hf).2 hc).2
      ·obtain⟨a0,v,hv,_⟩:=at_ j _ (List.getElem?_eq_getElem hj)
       simp only[hv,Option.getD_some]
      ·obtain⟨a0,v,hv,lI,hc,hf⟩:=at_ j b hj
       simp only[hv,Option.getD_some]
       exact((ih _ _ _ lI hf).2 hc).1
     ·simp at h
    ·simp at h
   ·simp at h
  |agg cs=>
   rw[gG]at h
   simp only[Option.map_eq_some_iff]at h
   obtain⟨r',od,rfl⟩:=h
   obtain⟨vs,f,rfl,h1,h2,h3,h4⟩:=iV hr
   obtain⟨l1,l2⟩:=jb od
   have hI:jQ P w D2 (.agg r') (.agg vs):=.agg r' vs f (by rw[h1,l1]) (fun b hb=>by
    obtain⟨j,hj,rfl⟩:=List.getElem_of_mem hb
    obtain⟨a0,lq,hf⟩:=l2 j _ (List.getElem?_eq_getElem hj)
    exact((ih _ _ _ (h4 j a0 lq) hf).2 (h2 a0 (List.mem_of_getElem? lq))).2) (fun j hj=>h3 j (by rw[<-l1];exact hj)) (fun j b hj=>by
    obtain⟨a0,lq,hf⟩:=l2 j b hj
    exact((ih _ _ _ (h4 j a0 lq) hf).2 (h2 a0 (List.mem_of_getElem? lq))).1)
   exact⟨.eT _ _ hI,fun hc=>by simp[AV.cell]at hc⟩
  |gE cs=>
   rw[gG]at h
   simp only[Option.map_eq_some_iff]at h
   obtain⟨r',od,rfl⟩:=h
   obtain⟨vs,f,rfl,h1,h3,h4⟩:=vd hr
   obtain⟨l1,l2⟩:=jb od
   exact⟨.gE r' vs f (by rw[h1,l1]) (fun j hj=>h3 j (by rw[<-l1];exact hj)) (fun j b hj=>by
    obtain⟨a0,lq,hf⟩:=l2 j b hj
    exact(ih _ _ _ (h4 j a0 lq) hf).1),fun hc=>by simp[AV.cell]at hc⟩
  |fn f di=>rw[gG]at h<;>(try simp at h)<;>(try(intros;simp_all))
  |int k m=>rw[gG]at h<;>(try simp at h)<;>(try subst h)<;>(try(rw[dz hr];exact⟨.eT _ _ (.int _ _),fun _=>⟨.int _ _,rfl⟩⟩))<;>(try(intros;simp_all))
  |bool b=>rw[gG]at h<;>(try simp at h)<;>(try subst h)<;>(try(rw[fm hr];exact⟨.eT _ _ (.bool _),fun _=>⟨.bool _,rfl⟩⟩))<;>(try(intros;simp_all))
  |str b=>rw[gG]at h<;>(try simp at h)<;>(try subst h)<;>(try(rw[fI hr];exact⟨.eT _ _ (.str _),fun _=>⟨.str _,rfl⟩⟩))<;>(try(intros;simp_all))
  |bE=>rw[gG]at h<;>(try simp at h)<;>(try subst h)<;>(try(rw[kj hr];exact⟨.eT _ _ .bE,fun _=>⟨.bE,rfl⟩⟩))<;>(try(intros;simp_all))
  |je=>rw[gG]at h<;>(try simp at h)<;>(try subst h)<;>(try(rw[xb hr];exact⟨.eT _ _ .je,fun _=>⟨.je,rfl⟩⟩))<;>(try(intros;simp_all))
  |jo=>rw[gG]at h<;>(try simp at h)<;>(try subst h)<;>(try(rw[Cx hr];exact⟨.eT _ _ .jo,fun _=>⟨.jo,rfl⟩⟩))<;>(try(intros;simp_all))
  |ue f di=>rw[gG]at h<;>(try simp at h)<;>(try(intros;simp_all))
  |gN=>rw[gG]at h<;>(try simp at h)<;>(try subst h)<;>(try(cases hr with|eT _ _ hr=>cases hr;exact both .gN rfl))<;>(try(intros;simp_all))
  |sl rows=>rw[gG]at h<;>(try simp at h)<;>(try(intros;simp_all))
  |dq cs=>rw[gG]at h<;>(try simp at h)<;>(try(intros;simp_all))
end
end Go.Proofs.YtgoelphibofcmaaGreat.V

namespace Go.Proofs.YtgoelphibofcmaaGreat.V
open Go.RowKit
variable {P:Program} {w w':World} {D D':Nat->Prop} {ι ι':Names}
section
variable {g:Rows} {hs:Nat} {env:Env} {a:Act} {o:Oper} {id:Id} {v:AV}
theorem gF.HQ (S:gF P hs D ι g w) {i:Id} {r r':Row} {B:sG} {ob:Obj} (hid:g i=some r) (hw:r.w=true) (hB:ι i=some B)
  (hR:(∀a v,cL P w D ι a v->cL P {w with heap:=w.heap.setIfInBounds B.b ob} D ι a v)->(w.heap.setIfInBounds B.b ob)[B.b]? =some ob->gT P {w with heap:=w.heap.setIfInBounds B.b ob} D ι B r'):
  gF P hs D ι (bL g i r') {w with heap:=w.heap.setIfInBounds B.b ob}/\Step hs D ι w D ι {w with heap:=w.heap.setIfInBounds B.b ob}:=by
 obtain⟨B0,BC,R,kq,mh⟩:=S.row i r hid
 rw[hB]at BC;injection BC with BC;subst BC
 have other:∀b,b≠B.b->(w.heap.setIfInBounds B.b ob)[b]? =w.heap[b]? :=fun b hb=>by simp[Ne.symm hb]
 have hd:∀b,D b->(w.heap.setIfInBounds B.b ob)[b]? =w.heap[b]? :=fun b hb=>other b (by rintro rfl;exact mh hw hb)
 have hr:∀a v,cL P w D ι a v->cL P {w with heap:=w.heap.setIfInBounds B.b ob} D ι a v:=fun a v h=>h.frame hd (fun _ h=>h) (fun _ _ h=>h)
 refine⟨⟨by simpa using S.lo,fun b hb=>by simpa using S.dead b hb,fun j q h=>?_,fun j j' q q' C C' h h' Ju hC uB he=>?_⟩,⟨⟨rfl,rfl,rfl,by simp,fun k hk=>other k (by have:=kq hw;omega)⟩,hd,fun _ h=>h,fun _ _ h=>h,fun _ h=>.inl h⟩⟩
 ·unfold bL at h
  split at h
  ·rename_i e
   subst e
   injection h with h;subst h
   exact⟨B,hB,hR hr (by simp[R.lt]),fun _=>kq hw,fun _=>mh hw⟩
  ·rename_i e
   obtain⟨C,hC,RC,k1,k2⟩:=S.row j q h
   refine⟨C,hC,RC.frame (other C.b (fun Nc=>e ?_)) hr,k1,k2⟩
   exact(S.inj i j r q B C hid h hw hB hC Nc.symm).symm
 ·unfold bL at h h'
  have get:∀j p,(if j=i then some r' else g j)=some p->∃p0,g j=some p0/\(p.w=true->p0.w=true):=fun j p hp=>by
   split at hp
   ·rename_i e;subst e;injection hp with hp;subst hp;exact⟨r,hid,fun _=>hw⟩
   ·exact⟨p,hp,fun h=>h⟩
  obtain⟨p,hp,Qz⟩:=get _ _ h
  obtain⟨p',OS,_⟩:=get _ _ h'
  exact S.inj j j' p p' C C' hp OS (Qz Ju) hC uB he
theorem Fv {s:TS} {x y:AV} {u v:Value} (he:fW s x y=some true) (hx:cL P w D ι x u) (hy:cL P w D ι y v):u=v/\∀n,Instr.sameBits n u v=true:=by
 unfold fW at he
 split at he
 ·split at he
  ·rename_i hk
   subst hk
   simp at he;subst he
   rw[dz hx,dz hy]
   exact⟨rfl,fun n=>by cases n<;>simp[Instr.sameBits]⟩
  ·cases he
 ·simp at he;subst he
  rw[fm hx,fm hy]
  exact⟨rfl,fun n=>by cases n<;>simp[Instr.sameBits]⟩
 ·simp at he;subst he
  rw[fI hx,fI hy]
  exact⟨rfl,fun n=>by cases n<;>simp[Instr.sameBits,IB]⟩
 ·cases he
theorem Bn {n:Nat}:∀{ts:List TS} {xs ys:List AV} {vs us:List Value},fe ts xs ys=some true->vs.length=xs.length->us.length=ys.length->(∀(j:Nat) (a:AV),xs[j]? =some a->∃u,vs[j]? =some u/\cL P w D ι a u)->(∀(j:Nat) (a:AV),ys[j]? =some a->∃u,us[j]? =some u/\cL P w D ι a u)->
  us.length=vs.length/\(us.zip vs).all (fun p=>Instr.sameBits n p.1 p.2)=true
 |[],[],[],vs,us,_,h1,h2,_,_=>by
  cases vs<;>cases us<;>simp_all
 |[],x::xs,ys,vs,us,h,_,_,_,_=>by simp[fe]at h
 |[],[],y::ys,vs,us,h,_,_,_,_=>by simp[fe]at h
 |t::ts,[],ys,vs,us,h,_,_,_,_=>by simp[fe]at h
 |t::ts,x::xs,[],vs,us,h,_,_,_,_=>by simp[fe]at h
 |t::ts,x::xs,y::ys,[],us,h,h1,_,_,_=>by simp at h1
 |t::ts,x::xs,y::ys,v::vs,[],h,_,h2,_,_=>by simp at h2
 |t::ts,x::xs,y::ys,v::vs,u::us,h,h1,h2,hx,hy=>by
  unfold fe at h
  split at h
  ·rename_i a b ha hb
   simp only[Option.some.injEq,Bool.and_eq_true]at h
   obtain⟨rfl,rfl⟩:=h
   obtain⟨v',nV,rv⟩:=hx 0 x rfl
   obtain⟨u',FL,ru⟩:=hy 0 y rfl
   simp at nV FL;subst nV;subst FL
   obtain⟨e1,e2⟩:=Fv ha rv ru
   obtain⟨q1,q2⟩:=Bn (n:=n) hb (by simpa using h1) (by simpa using h2) (fun j a hj=>by simpa using hx (j+1) a (by simpa using hj)) (fun j a hj=>by simpa using hy (j+1) a (by simpa using hj))
   refine⟨by simp[q1],?_⟩
   simp only[List.zip_cons_cons,List.all_cons,q2,Bool.and_true]
   rw[<-e1]
   have:=e2 n
   rw[<-e1]at this
   exact this
  ·cases h
theorem Ch {m:MK} {key:List AV}:∀{rows:List (List AV)} {i j:Nat},gu m key rows i=some (some j)->∃cs,i<=j/\rows[j-i]? =some cs/\fe m.ts key (cs.take m.ks)=some true
 |[],i,j,h=>by simp[gu]at h
 |cs::rows,i,j,h=>by
  unfold gu at h
  split at h
  ·rename_i hq
   simp at h;subst h
   exact⟨cs,Nat.le_refl _,by simp,hq⟩
  ·obtain⟨c,h1,h2,h3⟩:=Ch h
   exact⟨c,by omega,by rw[show j-i=(j-(i+1))+1 by omega];simpa using h2,h3⟩
  ·cases h
theorem wT {m:MK} {k:AV} {rows:List (List AV)} {fi:Option Nat} (h:fS m k rows=some fi):k.isAgg=m.ka/\k.cells.length=m.ks/\(k.cells.all AV.cell=true)/\gu m k.cells rows 0=some fi:=by
 unfold fS at h
 split at h
 ·rename_i hc;exact⟨hc.1,hc.2.1,hc.2.2,h⟩
 ·cases h
theorem J8 {m:MK} {k y:AV} (h1:k.isAgg=m.ka) (h2:k.cells.length=m.ks):part m.ka m.ks (k.cells++[y])=some k/\(k.cells++[y])[m.ks]? =some y:=by
 refine⟨?_,by rw[List.getElem?_append_right (by omega),h2,Nat.sub_self];rfl⟩
 cases hk:m.ka with
 |false=>
  rw[hk]at h1
  rw[wb h1];rfl
 |true=>
  rw[hk]at h1
  cases k<;>simp[AV.isAgg]at h1
  rename_i cs
  simp only[AV.cells]at h2 ⊢
  simp only[part,if_true]
  rw[if_pos (by simp;omega),<-h2,List.take_left']
  rfl
theorem stays {k:TypeId} {m:MK} (hK:Fi P k m) {key kv:AV} {u yW:Value} {cs:List AV} (h1:key.isAgg=m.ka) (hr:cL P w D ι key u) (hp:part m.ka m.ks cs=some kv) (ho:cL P w D ι kv yW) (he:fe m.ts key.cells (cs.take m.ks)=some true):(Instr.keyThatStays yW u).run P w=.ok u w:=by
 have hs:Instr.sameBits 10000 yW u=true:=by
  rcases hK with⟨s,rfl,hs⟩|⟨fs,ts,rfl,rL,xV,dK,dC⟩
  ·rw[wb h1]at he
   cases cs with
   |nil=>simp[part]at hp
   |cons c l=>
    simp[part]at hp;subst hp
    simp only[MK.ks,List.length_cons,List.length_nil,Nat.zero_add,List.take_succ_cons,List.take_zero,fe]at he
    cases hq:fW s key c with
    |none=>rw[hq]at he;simp at he
    |some b=>
     rw[hq]at he;simp at he;subst he
     obtain⟨e1,e2⟩:=Fv hq hr ho
     rw[<-e1]
     have:=e2 10000
     rwa [<-e1]at this
  ·cases key<;>simp[AV.isAgg]at h1
   rename_i ks
   simp only[part,if_true]at hp
   split at hp
   ·simp only[Option.some.injEq]at hp;subst hp
    obtain⟨vs,rfl,n1,r1⟩:=sa hr
    obtain⟨us,rfl,n2,r2⟩:=sa ho
    obtain⟨q1,q2⟩:=Bn (n:=9999) (vs:=vs.toList) (us:=us.toList) he (by simpa[AV.cells]using n1) (by simpa using n2) (fun j a hj=>by simpa using r1 j a hj) (fun j a hj=>by simpa using r2 j a hj)
    simp only[Instr.sameBits,Bool.and_eq_true,beq_iff_eq]
    exact⟨by simpa using q1,q2⟩
   ·cases hp
 simp[Instr.keyThatStays,hs]
theorem Kt {es:Array MapEntry} {clock:Nat} (h:Lj es clock) (k v:Value):Lj (es.push ⟨k,v,clock⟩) (clock+1):=by
 refine⟨fun x hx=>?_,?_⟩
 ·simp only[Array.toList_push,List.mem_append,List.mem_singleton]at hx
  rcases hx with hx|rfl
  ·have:=h.1 x hx;omega
  ·exact Nat.lt_succ_self _
 ·simp only[Array.toList_push,List.map_append,List.map_cons,List.map_nil]
  refine List.nodup_append.2 ⟨h.2,by simp,fun a ha b hb=>?_⟩
  obtain⟨x,hx,rfl⟩:=List.mem_map.1 ha
  simp at hb;subst hb
  have:=h.1 x hx;omega
theorem EV {es:Array MapEntry} {clock:Nat} (h:Lj es clock) (j:Nat) (k v:Value):Lj (es.modify j fun e=>{e with key:=k,val:=v}) clock:=by
 have e:(es.modify j fun e=>{e with key:=k,val:=v}).toList.map (·.born)=es.toList.map (·.born):=by
  refine List.ext_getElem? fun i=>?_
  simp only[List.getElem?_map,Array.getElem?_toList,Array.getElem?_modify]
  split
  ·cases es[i]? <;>rfl
  ·rfl
 refine⟨fun x hx=>?_,by rw[e];exact h.2⟩
 have hb:x.born∈(es.modify j fun e=>{e with key:=k,val:=v}).toList.map (·.born):=List.mem_map_of_mem hx
 rw[e]at hb
 obtain⟨y,hy,hyb⟩:=List.mem_map.1 hb
 rw[<-hyb];exact h.1 y hy
theorem HC {es:Array MapEntry} {clock:Nat} (h:Lj es clock) {j:Nat} (hj:j<es.size):Lj (es.eraseIdxIfInBounds j) clock:=by
 have e:(es.eraseIdxIfInBounds j).toList=es.toList.eraseIdx j:=by
  unfold Array.eraseIdxIfInBounds
  rw[dif_pos hj,Array.toList_eraseIdx]
 refine⟨fun x hx=>h.1 x ((List.eraseIdx_sublist _ _).subset (by rwa [e]at hx)),?_⟩
 rw[e]
 exact((List.eraseIdx_sublist es.toList j).map (·.born)).nodup h.2
theorem Bv {k y:AV} (h1:k.cells.all AV.cell=true) (h2:y.cell=true):∀a∈k.cells++[y],a.cell=true:=fun a ha=>by
 rcases List.mem_append.1 ha with ha|ha
 ·exact List.all_eq_true.1 h1 a ha
 ·rw[List.mem_singleton.1 ha];exact h2
theorem N8 {t:TypeId} {x k y:Operand} {m:MK} {z:K} {x' k' y':O} {g':Rows} (S:gF P hs D ι g w) (E:cE P w D ι env a) (ho:o.op=.mapUpdate t x k y∨o.op=.insert t x k y) (hc:sU P t=some (m,z)) (hx:cO P x=some x') (hk:cO P k=some k') (hy:cO P y=some y')
  (hv:bS (.set m) [dj env x',dj env k',dj env y'] g=some g'):C7 P hs a o w D ι id .undef g':=by
 obtain⟨kt,e,i,zv,ht,hi,qf,Tl,hK⟩:=rz hc
 simp only[bS,Option.bind_eq_some_iff]at hv
 obtain⟨p,hp,fi,BG,hv⟩:=hv
 split at hv
 ·rename_i hcond
  obtain⟨hw,hyc,_⟩:=hcond
  simp only[Option.some.injEq]at hv;subst hv
  obtain⟨B,hu,hg,hB,uT,es,clock,hb,fA,hlen,hM⟩:=zW S (dt E hx) hp
  have rk:=dt E hk
  have ry:=dt E hy
  obtain⟨K4,res,hf,hF⟩:=wh (B:=B) hK rk fA hM BG
  obtain⟨k1,k2,k3,k4⟩:=wT BG
  obtain⟨B',dH,R,_⟩:=S.row p.1 p.2 hg
  rw[hB]at dH;injection dH with dH;subst dH
  obtain⟨pk1,pk2⟩:=J8 (y:=dj env y') k1 k2
  have fq:(getObj B.b).run P w=.ok (.map es clock) w:=MapKept.run_getObj_map hb
  rcases hF with⟨rfl,rfl⟩|⟨j,en,rfl,he,rfl⟩
  ·have nT:=S.HQ (ob:=.map (es.push ⟨a.eval k,a.eval y,clock⟩) (clock+1)) (r':={p.2 with rows:=dQ p.2.rows ((dj env k').cells++[dj env y']) none}) hg hw hB fun hr kr=>⟨R.sz,fun cs dy=>?_,fun xz=>(by rw[uT]at xz;cases xz),fun m' BL=>?_,fun c hc=>(by rw[uT]at hc;cases hc)⟩
   ·refine⟨undef,_,ι,.inr ⟨?_,rfl⟩,nT.2,nT.1,cL.undef,fun _ _=>rfl⟩
    rcases ho with ho|ho<;>
    ·simp only[execOp,ho,Instr.mapUpdate,hu,Sem.run_bind,run_underlying ht,Result.andThen_ok,fq,K4,hf,MapKept.run_setObj_map _ hb,Sem.run_pure]
   ·rcases List.mem_append.1 dy with h|h
    ·exact R.flat cs h
    ·rw[List.mem_singleton.1 h];exact Bv k3 hyc
   ·rw[uT]at BL;simp only[Option.some.injEq,BK.map.injEq]at BL;subst BL
    refine⟨(R.map m uT).1,_,_,kr,by simp[dQ,fA],⟨fun cs dy=>?_,Kt hlen.2 _ _⟩,fun q cs hq=>?_⟩
    ·rcases List.mem_append.1 dy with h|h
     ·exact hlen.1 cs h
     ·rw[List.mem_singleton.1 h];simp[k2]
    ·rcases Nat.lt_or_ge q p.2.rows.length with dZ|qH
     ·simp only[dQ]at hq
      rw[List.getElem?_append_left dZ]at hq
      obtain⟨en,kv,vv,q1,q2,q3,q4,q5⟩:=hM q cs hq
      exact⟨en,kv,vv,by rw[Array.getElem?_push_lt (by omega)];rw[Array.getElem?_eq_getElem (by omega)]at q1;simpa using q1,q2,q3,hr _ _ q4,hr _ _ q5⟩
     ·simp only[dQ]at hq
      rw[List.getElem?_append_right qH]at hq
      have Nn:q=p.2.rows.length:=by
       have:=(List.getElem?_eq_some_iff.1 hq).1
       simp at this;omega
      subst Nn
      simp at hq;subst hq
      exact⟨⟨a.eval k,a.eval y,clock⟩,_,_,by rw[<-fA];simp,pk1,pk2,hr _ _ rk,hr _ _ ry⟩
  ·simp only[Nat.zero_add]at k4 BG hf ⊢
   obtain⟨Qh,_,LK,heq⟩:=Ch k4
   simp only[Nat.sub_zero]at LK
   obtain⟨Q1,kv,vv,q1,q2,_,q4,_⟩:=hM j Qh LK
   have HX:Q1=en:=by
    have h1:es.toList[j]? =some Q1:=by simpa using q1
    rw[he]at h1;injection h1 with h1;exact h1.symm
   subst HX
   have dK:=stays (w:=w) hK k1 rk q2 q4 heq
   have nT:=S.HQ (ob:=.map (es.modify j fun e=>{e with key:=a.eval k,val:=a.eval y}) clock) (r':={p.2 with rows:=dQ p.2.rows ((dj env k').cells++[dj env y']) (some j)}) hg hw hB fun hr kr=>⟨R.sz,fun cs dy=>?_,fun xz=>(by rw[uT]at xz;cases xz),fun m' BL=>?_,fun c hc=>(by rw[uT]at hc;cases hc)⟩
   ·refine⟨undef,_,ι,.inr ⟨?_,rfl⟩,nT.2,nT.1,cL.undef,fun _ _=>rfl⟩
    rcases ho with ho|ho<;>
    ·simp only[execOp,ho,Instr.mapUpdate,hu,Sem.run_bind,run_underlying ht,Result.andThen_ok,fq,K4,hf,q1,Option.map_some,Option.getD_some,dK,MapKept.run_setObj_map _ hb,Sem.run_pure]
   ·rcases List.mem_or_eq_of_mem_set dy with h|h
    ·exact R.flat cs h
    ·rw[h];exact Bv k3 hyc
   ·rw[uT]at BL;simp only[Option.some.injEq,BK.map.injEq]at BL;subst BL
    have iq:=(List.getElem?_eq_some_iff.1 LK).1
    refine⟨(R.map m uT).1,_,_,kr,by simp[dQ,fA],⟨fun cs dy=>?_,EV hlen.2 _ _ _⟩,fun q cs hq=>?_⟩
    ·rcases List.mem_or_eq_of_mem_set dy with h|h
     ·exact hlen.1 cs h
     ·rw[h];simp[k2]
    ·simp only[dQ,List.getElem?_set]at hq
     split at hq
     ·rename_i Qt
      subst Qt
      (try rw[if_pos iq]at hq)
      injection hq with hq;subst hq
      exact⟨{Q1 with key:=a.eval k,val:=a.eval y},_,_,by rw[Array.getElem?_modify];simp[q1],pk1,pk2,hr _ _ rk,hr _ _ ry⟩
     ·rename_i Qt
      obtain⟨en,kv,vv,q1,q2,q3,q4,q5⟩:=hM q cs hq
      exact⟨en,kv,vv,by rw[Array.getElem?_modify];simp[Qt,q1],q2,q3,hr _ _ q4,hr _ _ q5⟩
 ·cases hv
theorem N7 {t t':TypeId} {x k:Operand} {m:MK} {z:K} {x' k':O} {g':Rows} (S:gF P hs D ι g w) (E:cE P w D ι env a) (ho:o.op=.call {callee:=.builtin .delete,args:= #[x,k],argTypes:= #[t,t']}) (hc:sU P t=some (m,z)) (hx:cO P x=some x') (hk:cO P k=some k')
  (hv:bS (.del m) [dj env x',dj env k'] g=some g'):C7 P hs a o w D ι id .undef g':=by
 obtain⟨kt,e,i,zv,ht,hi,qf,Tl,hK⟩:=rz hc
 simp only[bS,Option.bind_eq_some_iff]at hv
 obtain⟨p,hp,fi,BG,hv⟩:=hv
 split at hv
 ·rename_i hw
  simp only[Option.some.injEq]at hv;subst hv
  obtain⟨B,hu,hg,hB,uT,es,clock,hb,fA,hlen,hM⟩:=zW S (dt E hx) hp
  have rk:=dt E hk
  obtain⟨K4,res,hf,hF⟩:=wh (B:=B) hK rk fA hM BG
  obtain⟨k1,k2,k3,k4⟩:=wT BG
  obtain⟨B',dH,R,_⟩:=S.row p.1 p.2 hg
  rw[hB]at dH;injection dH with dH;subst dH
  have fq:(getObj B.b).run P w=.ok (.map es clock) w:=MapKept.run_getObj_map hb
  have go:∀ob,(Builtin.delete_ #[t,t'] o.type #[a.eval x,a.eval k]).run P w=.ok (.tuple #[]) {w with heap:=w.heap.setIfInBounds B.b ob}->(execOp a.eval o).run P w=.ok (.value undef) {w with heap:=w.heap.setIfInBounds B.b ob}:=fun ob h=>by
   simp only[execOp,ho,resolve,Sem.run_bind,Sem.run_pure,Result.andThen_ok,invoke,builtin,Array.map]
   simp[h,undef]
  rcases hF with⟨rfl,rfl⟩|⟨j,en,rfl,he,rfl⟩
  ·have nT:=S.HQ (ob:=.map es clock) (r':={p.2 with rows:=dP p.2.rows none}) hg hw hB fun hr kr=>⟨R.sz,R.flat,fun xz=>(by rw[uT]at xz;cases xz),fun m' BL=>?_,fun c hc=>(by rw[uT]at hc;cases hc)⟩
   ·refine⟨undef,_,ι,.inl (go _ ?_),nT.2,nT.1,cL.undef,fun _ _=>rfl⟩
    simp[Builtin.delete_,hu,run_underlying ht,fq,K4,hf,MapKept.run_setObj_map _ hb]
   ·rw[uT]at BL;simp only[Option.some.injEq,BK.map.injEq]at BL;subst BL
    exact⟨(R.map m uT).1,_,_,kr,fA,hlen,fun q cs hq=>by
     obtain⟨en,kv,vv,q1,q2,q3,q4,q5⟩:=hM q cs hq
     exact⟨en,kv,vv,q1,q2,q3,hr _ _ q4,hr _ _ q5⟩⟩
  ·simp only[Nat.zero_add]at hf ⊢
   have iq:j<es.size:=by have:=(List.getElem?_eq_some_iff.1 he).1;simpa using this
   have nT:=S.HQ (ob:=.map (es.eraseIdxIfInBounds j) clock) (r':={p.2 with rows:=dP p.2.rows (some j)}) hg hw hB fun hr kr=>⟨R.sz,fun cs dy=>R.flat cs (List.mem_of_mem_eraseIdx dy),fun xz=>(by rw[uT]at xz;cases xz),fun m' BL=>?_,fun c hc=>(by rw[uT]at hc;cases hc)⟩
   ·refine⟨undef,_,ι,.inl (go _ ?_),nT.2,nT.1,cL.undef,fun _ _=>rfl⟩
    simp[Builtin.delete_,hu,run_underlying ht,fq,K4,hf,MapKept.run_setObj_map _ hb]
   ·rw[uT]at BL;simp only[Option.some.injEq,BK.map.injEq]at BL;subst BL
    have he2:∀q,(es.eraseIdxIfInBounds j)[q]? =(es.toList.eraseIdx j)[q]? :=fun q=>by
     unfold Array.eraseIdxIfInBounds
     rw[dif_pos iq,<-Array.getElem?_toList,Array.toList_eraseIdx]
    refine⟨(R.map m uT).1,_,_,kr,by simp[dP,Array.eraseIdxIfInBounds,iq,List.length_eraseIdx,<-fA],⟨fun cs dy=>hlen.1 cs (List.mem_of_mem_eraseIdx dy),HC hlen.2 iq⟩,fun q cs hq=>?_⟩
    simp only[dP,List.getElem?_eraseIdx]at hq
    split at hq
    ·rename_i dZ
     obtain⟨en,kv,vv,q1,q2,q3,q4,q5⟩:=hM q cs hq
     exact⟨en,kv,vv,by rw[he2,List.getElem?_eraseIdx,if_pos dZ];simpa using q1,q2,q3,hr _ _ q4,hr _ _ q5⟩
    ·rename_i dZ
     obtain⟨en,kv,vv,q1,q2,q3,q4,q5⟩:=hM (q+1) cs hq
     exact⟨en,kv,vv,by rw[he2,List.getElem?_eraseIdx,if_neg dZ];simpa using q1,q2,q3,hr _ _ q4,hr _ _ q5⟩
 ·cases hv
end
end Go.Proofs.YtgoelphibofcmaaGreat.V
