/- A small language in which the program's functions are read by value: its values, its operations, its code, and how the program's code is brought into it. -/
import Derived.WalkKit
import Derived.WalkSpells
import Derived.WalkLawsBesides
import Derived.Lib.Hide
import Derived.Great.BuildSlice
import Derived.Conc.LoneCalls
import Derived.MapKept
import Derived.WideKeyRuns
set_option linter.unusedVariables false
set_option linter.unusedSimpArgs false
set_option maxRecDepth 100000
set_option maxHeartbeats 16000000
namespace Go.Proofs.YtgoelphibofcmaaGreat.V
open Go.RowKit
structure Id where
  site:Nat
  cq:Nat
  deriving DecidableEq,Repr
inductive TS where
  |tI|tB|tS
  deriving Repr,DecidableEq
structure MK where
  ka:Bool
  ts:List TS
  deriving Repr,DecidableEq
inductive AV where
  |int (k:IntKind) (n:Int)
  |bool (b:Bool)
  |str (s:ByteArray)
  |bq|gJ|iT
  |sl (rows:List (List AV))
  |own (id:Id) (off len:Nat)
  |ptr (id:Id) (i off:Nat)
  |di (cs:List AV)
  |agg (cs:List AV)
  |iO (vs:List AV)
  |fn (f:Nat) (de:List AV)
  |map (id:Id) (m:MK)
  |je
  |tH (f:Nat) (first:List AV)
  |qZ (id:Id)
  deriving Inhabited
def AV.undef:AV:=.iO []
def AV.cell:AV->Bool
  | .agg _| .iO _=>false
  |_=>true
def AV.cells:AV->List AV
  | .agg cs=>cs
  |v=>[v]
inductive K where
  |int (k:IntKind) (n:Int)
  |bool (b:Bool)
  |str (l:List UInt8)
  |bq|gJ|iT|je
  deriving Repr,DecidableEq
def K.val:K->Value
  | .int k n=>.int k n
  | .bool b=>.bool b
  | .str l=>.string ⟨l.toArray⟩
  | .bq=>.slice none 0 0
  | .gJ=>.pointer none
  | .iT=>.nilFunc
  | .je=>.map none
def K.av:K->AV
  | .int k n=>.int k n
  | .bool b=>.bool b
  | .str l=>.str ⟨l.toArray⟩
  | .bq=>.bq
  | .gJ=>.gJ
  | .iT=>.iT
  | .je=>.je
def F4:Value->Option K
  | .int k n=>some (.int k n)
  | .bool b=>some (.bool b)
  | .string s=>some (.str s.data.toList)
  | .slice none 0 0=>some .bq
  | .pointer none=>some .gJ
  | .nilFunc=>some .iT
  | .map none=>some .je
  |_=>none
inductive O where
  |t (n:Nat)
  |k (c:K)
  |ka (cs:List K)
  |f (n:Nat)
  deriving Repr,DecidableEq
inductive MQ where
  |new (m:MK)
  |look (m:MK) (ok:Bool) (zero:K)
  |len (m:MK)
  deriving Repr,DecidableEq
inductive MW where
  |set (m:MK)
  |del (m:MK)
  deriving Repr,DecidableEq
inductive gp where
  |bS (x:O)
  |pick (c a b:O)
  |new (zero:List K)
  |box (x:O)
  |build (zero:List K) (parts:List (Nat×Nat×O))
  |j8 (sz len:Nat) (parts:List O)
  |load (agg:Bool) (n:Nat) (a:O)
  |store (n:Nat) (a x:O)
  |AN (x:O)
  |bin (op:BinOp) (k:IntKind) (x y:O)
  |sh (left:Bool) (x y:O)
  |Kn (op:BinOp) (x y:O)
  |FG (neg:Bool) (t:TS) (x y:O)
  |Q8 (neg:Bool) (ts:List TS) (x y:O)
  |PA (neg K4:Bool) (x:O)
  |Q9 (neg:Bool) (x:O)
  |not (x:O)
  |neg (x:O)
  |conv (k:IntKind) (x:O)
  |Er (x:O)
  |slice (sz:Nat) (x:O) (lo hi:Option O)
  |zX (x:O) (lo hi:Option O)
  |eX (off:Nat) (x:O)
  |field (agg:Bool) (off n:Nat) (x:O)
  |dZ (sz:Nat) (x i:O)
  |KY (len sz:Nat) (x i:O)
  |K0 (x i:O)
  |eE (agg:Bool) (len n:Nat) (x i:O)
  |extract (i:Nat) (x:O)
  |len (x:O)
  |K7 (x:O)
  |append (sz:Nat) (x y:O)
  |copy (sz:Nat) (x y:O)
  |clear (zero:List K) (x:O)
  |Lh (f:Nat) (de:List O)
  |Li (f:Nat) (first:List O)
  |jR (zero:List K) (len cap:O)
  |call (f:Nat) (args:List O)
  |tj (x:O) (args:List O)
  |mq (q:MQ) (xs:List O)
  |mw (q:MW) (xs:List O)
  |IS (x:O)
  |IG (x:O)
  |snd (x y:O)
  |N8 (x:O)
  |bad
  deriving Repr,DecidableEq
structure bB where
  dst:Option Nat
  op:gp
  guard:Option (Nat×Bool)
  site:Nat
  hid:List Nat
  deriving Repr,DecidableEq
def q (d:Nat) (op:gp) (s:Nat):bB:=⟨some d,op,none,s,[]⟩
inductive VC where
  |skip
  |dm (draw:Bool) (ops:List bB)
  |seq (a b:VC)
  |cond (c:O) (x y:VC)
  |block (id:Nat) (c:VC)
  |loop (c:VC)
  |exit (id:Nat)
  |ret
  |one (o:bB) (c:VC)
  |both (a b:VC)
  |loc (t s:Nat) (y:O) (c:VC)
  |MT (ops:List bB)
  deriving Repr,DecidableEq
inductive oj where
  |tmp (t:Nat)
  |cell (agg:Bool) (n:Nat) (t:Nat)
  deriving Repr,DecidableEq
structure xg where
  ntmps:Nat
  yD:Nat
  body:VC
  res:List oj
  deriving Repr,DecidableEq
def fM (P:Program) (f:Nat):Bool:=
  match P.funcs[f]? with
  |some fn=>fn.body.isSome&& !(fn.name== "runtime.NumGoroutine")
  |none=>false
def cO (P:Program):Operand->Option O
  | .tmp t=>some (.t t)
  | .const (.agg cs)=>(cs.toList.mapM F4).map O.ka
  | .const v=>(F4 v).map O.k
  | .global _=>none
  | .func f=>if fM P f then some (.f f)else none
def jE (P:Program) (t:TypeId):Option (List K):=
  match P.info? t with
  |some i=>match i.zero with
    |some v=>if v.cells.size=i.size then v.cells.toList.mapM F4 else none
    |none=>none
  |none=>none
def ep (P:Program) (t:TypeId):Option Nat:=(P.info? t).map (·.size)
def nH (P:Program) (t:TypeId):Option Bool:=
  match P.underlying t with
  |some (.struct _)|some (.array _ _)=>some true
  |some _=>some false
  |none=>none
inductive R4 where
  |sc (t:TS)|ag (ts:List TS)
  deriving Repr,DecidableEq
def fo (P:Program) (t:TypeId):Option TS:=
  match P.underlying t with
  |some .bool=>some .tB
  |some (.int _)=>some .tI
  |some .string=>some .tS
  |_=>none
def CY (P:Program) (inner:List Field->Option (List TS)):Nat->List Field->Option (List TS)
  |_,[]=>some []
  |off,f::r=>
    if f.offset=off/\f.name≠ "_" then
      match fo P f.type with
      |some t=>if nH P f.type=some false then(CY P inner (off+1) r).map (t::·)else none
      |none=>match P.underlying f.type with
        |some (.struct fs)=>if !P.stoodInHeld f.type then match inner fs.toList with
          |some ts=>if ep P f.type=some ts.length/\ts≠[]then(CY P inner (off+ts.length) r).map (ts++·)else none
          |none=>none else none
        |_=>none
    else none
def eK (P:Program):Nat->Nat->List Field->Option (List TS)
  |0,_,[]=>some []
  |0,_,_::_=>none
  |d+1,off,fs=>CY P (eK P d 0) off fs
def Sg (P:Program) (t:TypeId):Option R4:=
  match fo P t with
  |some s=>some (.sc s)
  |none=>match P.underlying t with
    |some (.struct fs)=>if !P.stoodInHeld t&& !P.eqGuardType P.depth t then(eK P 4 0 fs.toList).map R4.ag else none
    |_=>none
def sq (P:Program) (fs:Array Field):List (Nat×O)->Option (List (Nat×Nat×O))
  |[]=>some []
  |(i,x)::r=>match fs[i]? with
    |some f=>match ep P f.type with
      |some n=>(sq P fs r).map ((f.offset,n,x)::·)
      |none=>none
    |none=>none
def sw (P:Program) (ps:Array (Nat×Operand)):Option (List (Nat×O)):=ps.toList.mapM fun(i,x)=>(cO P x).map (i,·)
def qW (P:Program):Option Operand->Option (Option O)
  |none=>some none
  |some x=>(cO P x).map some
def sr (P:Program) (neg:Bool) (t:TypeId) (x y:Operand):Option gp:=
  match y with
  | .const (.slice none 0 0)=>match P.underlying t with
    |some (.slice _)=>(cO P x).map (gp.PA neg false)
    |_=>none
  | .const .nilFunc=>match P.underlying t with
    |some (.func ..)=>(cO P x).map (gp.PA neg true)
    |_=>none
  | .const (.pointer none)=>match P.underlying t with
    |some (.pointer _)=>(cO P x).map (gp.Q9 neg)
    |_=>none
  |_=>match Sg P t with
    |some (.sc s)=>do pure (.FG neg s (<-cO P x) (<-cO P y))
    |some (.ag ts)=>do pure (.Q8 neg ts (<-cO P x) (<-cO P y))
    |_=>none
def uT (P:Program) (op:BinOp) (t:TypeId) (x y:Operand):Option gp:=
  match op with
  | .eql=>sr P false t x y
  | .neq=>sr P true t x y
  | .shl=>do pure (.sh true (<-cO P x) (<-cO P y))
  | .shr=>do pure (.sh false (<-cO P x) (<-cO P y))
  |op=>match P.underlying t with
    |some (.int k)=>do pure (.bin op k (<-cO P x) (<-cO P y))
    |some .string=>do pure (.Kn op (<-cO P x) (<-cO P y))
    |_=>none
def su (P:Program) (t:TypeId):Option (MK×K):=
  match P.underlying t with
  |some (.map k e)=>match nH P e,(P.info? e).bind (·.zero),fo P k,P.underlying k with
    |some false,some zv,some s,_=>(F4 zv).map fun z=>(⟨false,[s]⟩,z)
    |some false,some zv,none,some (.struct fs)=>match eK P 4 0 fs.toList,F4 zv with
      |some ts,some z=>if !P.stoodInHeld k/\fs.toList.all (fun f=>(fo P f.type).isSome)then some (⟨true,ts⟩,z)else none
      |_,_=>none
    |_,_,_,_=>none
  |_=>none
def nw (P:Program) (c:Call):Option gp:=
  match c.callee with
  | .builtin .len=>match c.args.toList,c.argTypes.toList with
    |[x],[t]=>match P.underlying t with
      |some (.slice _)=>(cO P x).map gp.len
      |some .string=>(cO P x).map gp.K7
      |some (.map _ _)=>match su P t,cO P x with
        |some (m,_),some x=>some (.mq (.len m) [x])
        |_,_=>none
      |some (.chan _ _)=>(cO P x).map gp.IG
      |_=>none
    |_,_=>none
  | .builtin .append=>match c.args.toList,c.argTypes.toList with
    |[x,y],[t,u]=>match P.underlying t with
      |some (.slice e)=>match ep P e,jE P e,P.info? e with
        |some (sz+1),some _,some i=>if i.bytes<=32768/\t=u then do pure (.append (sz+1) (<-cO P x) (<-cO P y))else none
        |_,_,_=>none
      |_=>none
    |_,_=>none
  | .builtin .clear=>match c.args.toList,c.argTypes.toList with
    |[x],[t]=>match P.underlying t with
      |some (.slice e)=>match ep P e,jE P e with
        |some (_+1),some z=>(cO P x).map (gp.clear z)
        |_,_=>none
      |_=>none
    |_,_=>none
  | .value (.func f)=>if fM P f then(c.args.toList.mapM (cO P)).map (gp.call f)else none
  | .value (.tmp t)=>(c.args.toList.mapM (cO P)).map (gp.tj (.t t))
  | .builtin .delete=>match c.args.toList,c.argTypes.toList with
    |[x,k],[t,_]=>match su P t,cO P x,cO P k with
      |some (m,_),some x,some k=>some (.mw (.del m) [x,k])
      |_,_,_=>none
    |_,_=>none
  | .builtin .copy=>match c.args.toList,c.argTypes.toList with
    |[x,y],[t,_]=>match P.underlying t with
      |some (.slice e)=>match ep P e with
        |some (sz+1)=>do pure (.copy (sz+1) (<-cO P x) (<-cO P y))
        |_=>none
      |_=>none
    |_,_=>none
  |_=>none
def qK (P:Program) (o:Op):Option gp:=
  match o with
  | .move x| .assign x=>(cO P x).map gp.bS
  | .pick c a b=>do pure (.pick (<-cO P c) (<-cO P a) (<-cO P b))
  | .alloc e=>(jE P e).map gp.new
  | .box _ x=>(cO P x).map gp.box
  | .load t a=>do pure (.load (<-nH P t) (<-ep P t) (<-cO P a))
  | .store t a x=>do pure (.store (<-ep P t) (<-cO P a) (<-cO P x))
  | .nilCheck x=>(cO P x).map gp.AN
  | .binOp op t x y _=>uT P op t x y
  | .unOp .not _ x=>(cO P x).map gp.not
  | .unOp .neg _ x=>(cO P x).map gp.neg
  | .convert s d x=>match P.underlying s,P.underlying d with
    |some (.int _),some (.int k)=>(cO P x).map (gp.conv k)
    |some .string,some .string=>(cO P x).map gp.Er
    |_,_=>none
  | .slice t x lo hi none=>match P.underlying t with
    |some (.slice e)=>do
      pure (.slice (<-ep P e) (<-cO P x) (<-qW P lo) (<-qW P hi))
    |some .string=>do pure (.zX (<-cO P x) (<-qW P lo) (<-qW P hi))
    |_=>none
  | .fieldAddr s x i=>match P.underlying s with
    |some (.struct fs)=>match fs[i]? with
      |some f=>match ep P f.type with
        |some (_+1)=>(cO P x).map (gp.eX f.offset)
        |_=>none
      |none=>none
    |_=>none
  | .field s x i=>match P.underlying s with
    |some (.struct fs)=>match fs[i]? with
      |some f=>do pure (.field (<-nH P f.type) f.offset (<-ep P f.type) (<-cO P x))
      |none=>none
    |_=>none
  | .indexAddr t x i=>match P.underlying t with
    |some (.slice e)=>match ep P e with
      |some (m+1)=>do pure (.dZ (m+1) (<-cO P x) (<-cO P i))
      |_=>none
    |some (.array len e)=>match ep P e with
      |some (m+1)=>do pure (.KY len (m+1) (<-cO P x) (<-cO P i))
      |_=>none
    |_=>none
  | .index t x i=>match P.underlying t with
    |some .string=>do pure (.K0 (<-cO P x) (<-cO P i))
    |some (.array len e)=>do pure (.eE (<-nH P e) len (<-ep P e) (<-cO P x) (<-cO P i))
    |_=>none
  | .extract x i=>(cO P x).map (gp.extract i)
  | .build t ps=>match P.underlying t with
    |some (.struct fs)=>
      match jE P t,sw P ps with
      |some z,some l=>
        if fs.all (fun f=>(P.info? f.type).isSome)then(sq P fs l).map (gp.build z)else none
      |_,_=>none
    |some (.array _ e)=>
      match jE P t,sw P ps,ep P e with
      |some z,some l,some n=>some (.build z (l.map fun(i,x)=>(i*n,n,x)))
      |_,_,_=>none
    |_=>none
  | .buildSlice t len ps=>match P.underlying t with
    |some (.slice e)=>match ep P e,jE P e,sw P ps with
      |some (sz+1),some _,some l=>
        if len*(sz+1)<=4096/\l.map (·.1)=List.range len then some (.j8 (sz+1) len (l.map (·.2)))else none
      |_,_,_=>none
    |_=>none
  | .makeFunc (.func f) first de=>
    if first= #[]/\fM P f then(de.toList.mapM (cO P)).map (gp.Lh f)else if de= #[]/\fM P f then(first.toList.mapM (cO P)).map (gp.Li f)else none
  | .makeSlice t l c=>match P.underlying t with
    |some (.slice e)=>match ep P e,jE P e,P.info? e with
      |some (_+1),some z,some i=>if i.bytes<=32768 then do pure (.jR z (<-cO P l) (<-cO P c))else none
      |_,_,_=>none
    |_=>none
  | .call c=>nw P c
  | .makeChan t n=>match P.underlying t with
    |some (.chan _ e)=>match P.info? e with
      |some i=>if i.bytes<=32768 then(cO P n).map gp.IS else none
      |none=>none
    |_=>none
  | .send x y=>do pure (.snd (<-cO P x) (<-cO P y))
  | .recv t x false=>match P.underlying t with
    |some (.chan _ e)=>match (P.info? e).bind (·.zero)with
      |some _=>(cO P x).map gp.N8
      |none=>none
    |_=>none
  | .makeMap t none=>match su P t with
    |some (m,_)=>some (.mq (.new m) [])
    |none=>none
  | .lookup t x k ok=>match su P t,cO P x,cO P k with
    |some (m,z),some x,some k=>some (.mq (.look m ok z) [x,k])
    |_,_,_=>none
  | .mapUpdate t x k v| .insert t x k v=>match su P t,cO P x,cO P k,cO P v with
    |some (m,_),some x,some k,some v=>some (.mw (.set m) [x,k,v])
    |_,_,_,_=>none
  | .makeInterface _ _=>some .bad
  | .panic _=>some .bad
  |_=>none
inductive R3 where
  |pure|look|make|write
  deriving DecidableEq,Repr
def gp.cls:gp->R3
  | .new _| .box _| .j8 .. | .jR .. | .mq (.new _) _| .IS _=>.make
  | .load .. | .dZ .. | .slice .. | .call .. | .tj .. | .mq .. | .IG _=>.look
  | .store .. | .append .. | .copy .. | .clear .. | .mw .. | .snd .. | .N8 _=>.write
  |_=>.pure
def clash:R3->R3->Bool
  | .pure,_|_,.pure=>false
  | .write,_|_,.write=>true
  |_,_=>false
def jx (ops:Array Oper):Array Nat:=Region.before ops
def qE:gp->Bool:=fun o=>o.cls==.make||o.cls==.write
def gp.lG:gp->Bool
  | .call .. | .tj .. =>true
  |_=>false
def CN (ops:Array Oper) (o:Oper):Option (Option (Nat×Bool)):=
  match o.guard with
  |none=>some none
  |some (i,b)=>match (ops[i]?).bind (·.dst)with
    |some t=>some (some (t,b))
    |none=>none
def l5 (P:Program) (ops:Array Oper) (nt site0:Nat) (draw mk:Bool) (bs:Array Nat) (hidden:List (Nat×Bool)) (j:Nat) (o:Oper):Option bB:=do
  let v <-qK P o.op
  let g <-CN ops o
  if (o.dst.all fun d=>decide (d<nt))then
    pure {dst:=o.dst,op:=v,guard:=g,site:=site0+j,hid:=if draw then(hidden.filter fun(i,m)=>m&& !(bs.getD j 0).testBit i&&(i !=j||mk&&v.lG)).map fun(i,_)=>site0+i else[]}
  else none
def allM {α:Type} (f:Nat->Oper->Option α):List Oper->Nat->Option (List α)
  |[],_=>some []
  |o::r,j=>do pure ((<-f j o)::(<-allM f r (j+1)))
def gK:O->List Nat
  | .t n=>[n]
  |_=>[]
def wg:Option O->List Nat
  |some x=>gK x
  |none=>[]
def gp.gw:gp->List Nat
  | .clear _ x| .bS x| .box x| .load _ _ x| .AN x| .PA _ _ x| .Q9 _ x| .not x| .neg x| .conv _ x| .Er x| .eX _ x| .field _ _ _ x| .extract _ x| .len x| .K7 x| .IS x| .IG x| .N8 x=>gK x
  | .pick c a b=>gK c++gK a++gK b
  | .new _| .bad=>[]
  | .build _ ps=>ps.flatMap fun(_,_,x)=>gK x
  | .j8 _ _ ps=>ps.flatMap gK
  | .store _ a x| .snd a x=>gK a++gK x
  | .bin _ _ x y| .sh _ x y| .Kn _ x y| .FG _ _ x y| .Q8 _ _ x y| .dZ _ x y| .KY _ _ x y| .K0 x y| .eE _ _ _ x y| .append _ x y| .copy _ x y| .jR _ x y=>gK x++gK y
  | .slice _ x lo hi| .zX x lo hi=>gK x++wg lo++wg hi
  | .Lh _ l| .Li _ l| .call _ l| .mq _ l| .mw _ l=>l.flatMap gK
  | .tj x l=>gK x++l.flatMap gK
def bB.gw (v:bB):List Nat:=v.op.gw++(match v.guard with|some (t,_)=>[t]|none=>[])
def ta (x y:bB):Bool:=
  (match x.dst with
   |some d=> !y.gw.contains d&&y.dst !=some d
   |none=>true)&&
  (match y.dst with
   |some d=> !x.gw.contains d
   |none=>true)
def bB.makes (v:bB):Bool:=qE v.op||v.op.lG&&v.hid.contains v.site
def EC (x y:bB):Bool:=
  ta x y&& !clash x.op.cls y.op.cls&&(!x.makes||y.hid.contains x.site)&&(!y.makes||x.hid.contains y.site)&&x.site !=y.site
def Eu (ops:Array Oper):Bool:=ops.toList.zipIdx.all fun(o,j)=>o.after.all fun e=> !Region.binds .any e||decide (e.on<j)
def oy (ops:Array Oper) (vl:List bB) (bs:Array Nat):Bool:=
  Eu ops&&vl.zipIdx.all fun(y,j)=>vl.zipIdx.all fun(x,i)=> !(decide (i<j))||(bs.getD j 0).testBit i||EC x y
def qY (P:Program) (nt site0:Nat) (ops:Array Oper) (draw mk:Bool):Option (List bB):=
  let bs:=if draw then jx ops else #[]
  let hidden:=if draw then ops.toList.zipIdx.map fun(o,i)=>(i,((qK P o.op).map fun v=>qE v||mk&&v.lG).getD false)else[]
  match allM (l5 P ops nt site0 draw mk bs hidden) ops.toList 0 with
  |some vl=>if !draw||oy ops vl bs then some vl else none
  |none=>none
def kO (v:bB):Bool:= !v.op.lG&&v.op.cls !=.write
def x9 (x y:bB):Bool:=ta x y&&x.op.cls==.pure||EC x y&&kO x&&kO y
def qk (ops:Array Oper) (vl:List bB) (bs:Array Nat) (listed:Array Bool) (i:Nat):Bool:=
  match vl[i]? with
  |some x=>(List.range ops.size).all fun j=>listed.getD j false||j==i||(bs.getD j 0).testBit i||(match vl[j]? with|some y=>x9 x y|none=>false)
  |none=>false
def Mr (vl:List bB) (x:bB):Option (Nat×Nat×O):=
  match x.op,x.guard with
  | .append _ (.t t) y,none=>match vl.find? fun v=>v.dst==some t&&v.op.cls==.make with
    |some v=>some (t,v.site,y)
    |none=>none
  |_,_=>none
def EB (s:Nat) (x y:bB):Bool:=ta x y&&kO y&&y.hid.contains s&&y.hid.contains x.site&&y.site !=s&&y.site !=x.site
def oF (ops:Array Oper) (vl:List bB) (bs:Array Nat) (listed:Array Bool) (i s:Nat):Bool:=
  match vl[i]? with
  |some x=>(List.range ops.size).all fun j=>listed.getD j false||j==i||(bs.getD j 0).testBit i||(match vl[j]? with|some y=>EB s x y|none=>false)
  |none=>false
def NX (ops:Array Oper) (vl:List bB) (bs:Array Nat) (listed:Array Bool) (i:Nat):Option (Nat×Nat×Nat×O×bB):=
  match vl[i]? with
  |some x=>match Mr vl x with
    |some (t,s,y)=>if oF ops vl bs listed i s then some (i,t,s,y,x)else none
    |none=>none
  |none=>none
def AI:List VC->Option VC
  |[]=>none
  |[c]=>some c
  |c::r=>(AI r).map (VC.both c)
def wS (ops:Array Oper) (vl:List bB) (bs:Array Nat):Nat->Array Bool->Option VC
  |0,listed=>
    match Region.ready .any ops listed with
    |[]=>some (.dm false [])
    |_::_=>none
  |n+1,listed=>
    match Region.ready .any ops listed with
    |[]=>some (.dm false [])
    |r::rs=>let rdy:=r::rs
      match rdy.find? (qk ops vl bs listed)with
      |some i=>match vl[i]? with
        |some vo=>(wS ops vl bs n (listed.setIfInBounds i true)).map (VC.one vo)
        |none=>none
      |none=>match rdy.findSome? (NX ops vl bs listed)with
        |some (i,t,s,y,vo)=>(wS ops vl bs n (listed.setIfInBounds i true)).map fun c=>VC.loc t s y (.one vo c)
        |none=>match rdy.mapM fun i=>(vl[i]?).bind fun vo=>(wS ops vl bs n (listed.setIfInBounds i true)).map (VC.one vo)with
          |some l=>AI l
          |none=>none
def Mp:Op->Bool
  | .send .. | .recv .. =>true
  |_=>false
def Ps (P:Program) (nt site0:Nat) (ops:Array Oper) (draw:Bool) (mode:Nat):Option VC:=
  if draw&&mode==2 then
    match allM (l5 P ops nt site0 true false (jx ops) (ops.toList.zipIdx.map fun(o,i)=>(i,((qK P o.op).map qE).getD false))) ops.toList 0 with
    |some vl=>wS ops vl (jx ops) ops.size (Array.replicate ops.size false)
    |none=>none
  else if !draw&&ops.any (fun o=>Mp o.op)then(qY P nt site0 ops false false).map VC.MT
  else(qY P nt site0 ops draw (mode==1)).map (VC.dm draw)
def vZ (md:List (Nat×Nat)) (id:Nat):Nat:=
  match md with
  |[]=>0
  |(i,m)::r=>if i=id then m else vZ r id
def jD (P:Program) (md:List (Nat×Nat)) (nt vg:Nat):Code->Option VC
  | .skip=>some .skip
  | .region id ops draw=>Ps P nt ((vg*1000+id)*1000) ops draw (vZ md id)
  | .seq a b=>do pure (.seq (<-jD P md nt vg a) (<-jD P md nt vg b))
  | .cond c x y=>do pure (.cond (<-cO P c) (<-jD P md nt vg x) (<-jD P md nt vg y))
  | .block id c=>(jD P md nt vg c).map (VC.block id)
  | .loop c=>(jD P md nt vg c).map VC.loop
  | .exit id=>some (.exit id)
  | .ret=>some .ret
  |_=>none
def CO (P:Program) (r:ResultVar):Option oj:=
  match r with
  | .tmp t=>some (.tmp t)
  | .cell a t=>do pure (.cell (<-nH P t) (<-ep P t) a)
def ss (P:Program) (f:Nat) (md:List (Nat×Nat)):Option xg:=
  match P.funcs[f]? with
  |some fn=>match fn.body with
    |some c=>do
      let b <-jD P md fn.ntmps f c
      let r <-fn.results.toList.mapM (CO P)
      if fn.params.size+fn.nfree<=fn.ntmps then pure {ntmps:=fn.ntmps,yD:=fn.params.size+fn.nfree,body:=b,res:=r}else none
    |none=>none
  |none=>none
def lZ (P:Program) (f:Nat):Option xg:=ss P f []
end Go.Proofs.YtgoelphibofcmaaGreat.V

namespace Go.Proofs.YtgoelphibofcmaaGreat.V
open Go.RowKit
structure Row where
 w:Bool
 sz:Nat
 rows:List (List AV)
abbrev Rows:=Id->Option Row
structure aw where
 get:Rows
 next:Nat
abbrev Env:=Nat->AV
def upd (env:Env):Option Nat->AV->Env
 |some d,v=>fun t=>if t=d then v else env t
 |none,_=>env
inductive Ex where
 |normal
 |exit (id:Nat)
 |ret
 deriving DecidableEq
def da (env:Env):O->AV
 | .t n=>env n
 | .k c=>c.av
 | .ka cs=>.agg (cs.map K.av)
 | .f n=>.fn n []
def bK (g:Rows) (id:Id) (r:Row):Rows:=fun i=>if i=id then some r else g i
def bV (g:Rows) (id:Id):Rows:=fun i=>if i=id then none else g i
def fE:List Nat->Nat->Rows->Rows
 |[],_,g=>g
 |h::t,n,g=>fun id=>if (h::t).contains id.site=true/\id.cq=n then none else g id
def ro (g:Rows):Rows:=fun id=>(g id).map fun r=>{r with w:=false}
def part (agg:Bool) (n:Nat) (cs:List AV):Option AV:=
 if agg then(if n<=cs.length then some (.agg (cs.take n))else none)else cs.head?
def rowAt (g:Rows) (id:Id) (i:Nat):Option (List AV):=(g id).bind (·.rows[i]?)
def ld (g:Rows) (agg:Bool) (n:Nat):AV->Option AV
 | .ptr id i off=>(rowAt g id i).bind fun cs=>part agg n (cs.drop off)
 | .di cs=>part agg n cs
 |_=>none
def dq:BinOp->IntKind->Int->Int->Option AV
 | .add,k,a,b=>some (.int k (k.wrap (a+b)))
 | .sub,k,a,b=>some (.int k (k.wrap (a-b)))
 | .mul,k,a,b=>some (.int k (k.wrap (a*b)))
 | .quo,k,a,b=>if b=0 then none else some (.int k (k.wrap (a.tdiv b)))
 | .rem,k,a,b=>if b=0 then none else some (.int k (a.tmod b))
 | .lss,_,a,b=>some (.bool (decide (a<b)))
 | .leq,_,a,b=>some (.bool (decide (a<=b)))
 | .gtr,_,a,b=>some (.bool (decide (b<a)))
 | .geq,_,a,b=>some (.bool (decide (b<=a)))
 | .and,k,a,b=>some (.int k (k.wrap (BitVec.ofInt k.bits a&&& BitVec.ofInt k.bits b).toNat))
 | .or,k,a,b=>some (.int k (k.wrap (BitVec.ofInt k.bits a|||BitVec.ofInt k.bits b).toNat))
 | .xor,k,a,b=>some (.int k (k.wrap (BitVec.ofInt k.bits a ^^^ BitVec.ofInt k.bits b).toNat))
 |_,_,_,_=>none
def dM (op:BinOp):AV->AV->Option AV
 | .int k a,.int k' b=>if k=k' then dq op k a b else none
 |_,_=>none
def gy (left:Bool):AV->AV->Option AV
 | .int k a,.int _ b=>if b<0 then none else some (.int k (if left then k.wrap (a*2 ^ min b.toNat k.bits)else a.fdiv (2 ^ min b.toNat k.bits)))
 |_,_=>none
def dY:BinOp->ByteArray->ByteArray->Option AV
 | .add,a,b=>if a.size+b.size<=9223372036854775807 then some (.str (a++b))else none
 | .lss,a,b=>some (.bool (Op.bytesLess a.toList b.toList))
 | .leq,a,b=>some (.bool (Op.bytesLess a.toList b.toList||(a.toList==b.toList)))
 | .gtr,a,b=>some (.bool !(Op.bytesLess a.toList b.toList||(a.toList==b.toList)))
 | .geq,a,b=>some (.bool !(Op.bytesLess a.toList b.toList))
 |_,_,_=>none
def cY (op:BinOp):AV->AV->Option AV
 | .str a,.str b=>dY op a b
 |_,_=>none
def fA:TS->AV->AV->Option Bool
 | .tI,.int k a,.int k' b=>if k=k' then some (decide (a=b))else none
 | .tB,.bool a,.bool b=>some (a==b)
 | .tS,.str a,.str b=>some (decide (a=b))
 |_,_,_=>none
def eS:List TS->List AV->List AV->Option Bool
 |[],[],[]=>some true
 |t::ts,a::r,b::s=>match fA t a b,eS ts r s with
  |some x,some y=>some (x&&y)
  |_,_=>none
 |_,_,_=>none
def dk (neg b:Bool):Bool:=if neg then !b else b
def cW:AV->Option Bool
 | .bq=>some true
 | .own _ _ _=>some false
 | .sl (_::_)=>some false
 |_=>none
def cV:AV->Option Bool
 | .iT=>some true
 | .fn _ _=>some false
 |_=>none
def JI:AV->Option Bool
 | .gJ=>some true
 | .ptr .. | .di _=>some false
 |_=>none
def dR (K4:Bool) (x:AV):Option Bool:=if K4 then cV x else cW x
def dD (len:Nat):Option AV->Option Nat
 |none=>some len
 |some (.int _ n)=>if 0<=n/\n<=len then some n.toNat else none
 |_=>none
def dE (h:Nat):Option AV->Option Nat
 |none=>some 0
 |some (.int _ n)=>if 0<=n/\n<=h then some n.toNat else none
 |_=>none
def bG (g:Rows) (sz:Nat) (x:AV) (lo hi:Option AV):Option AV:=
 match x with
 | .bq=>(dD 0 hi).bind fun h=>(dE h lo).map fun _=>.bq
 | .sl rows=>(dD rows.length hi).bind fun h=>(dE h lo).bind fun l=>if ∀cs∈rows,cs.length=sz then some (.sl ((rows.drop l).take (h-l)))else none
 | .own id off len=>(g id).bind fun r=>(dD len hi).bind fun h=>(dE h lo).bind fun l=>if r.sz=sz then some (.own id (off+l) (h-l))else none
 |_=>none
def bc (x:AV) (lo hi:Option AV):Option AV:=
 match x with
 | .str s=>(dD s.size hi).bind fun h=>(dE h lo).map fun l=>.str (s.extract l h)
 |_=>none
def Ed (off:Nat):AV->Option AV
 | .ptr id i o=>some (.ptr id i (o+off))
 | .di cs=>some (.di (cs.drop off))
 |_=>none
def bF (g:Rows) (sz:Nat):AV->AV->Option AV
 | .sl rows,.int _ n=>if 0<=n then(rows[n.toNat]?).bind fun cs=>if cs.length=sz then some (.di cs)else none else none
 | .own id off len,.int _ n=>if 0<=n/\n<len then(g id).bind fun r=>if r.sz=sz then some (.ptr id (off+n.toNat) 0)else none else none
 |_,_=>none
def cL (len sz:Nat):AV->AV->Option AV
 | .ptr id r off,.int _ n=>if 0<=n/\n<len then some (.ptr id r (off+n.toNat*sz))else none
 | .di cs,.int _ n=>if 0<=n/\n<len then some (.di (cs.drop (n.toNat*sz)))else none
 |_,_=>none
def cP:AV->AV->Option AV
 | .str s,.int _ n=>if 0<=n then(s[n.toNat]?).map fun b=>.int .u8 b.toNat else none
 |_,_=>none
def cN (agg:Bool) (len n:Nat):AV->AV->Option AV
 | .agg cs,.int _ i=>if 0<=i/\i<len then part agg n (cs.drop (i.toNat*n))else none
 |_,_=>none
def dO:AV->Option Nat
 | .bq=>some 0
 | .sl rows=>some rows.length
 | .own _ _ n=>some n
 |_=>none
def dS:AV->Option AV
 | .bool b=>some (.bool !b)
 |_=>none
def dQ:AV->Option AV
 | .int k n=>some (.int k (k.wrap (0-n)))
 |_=>none
def cK (k:IntKind):AV->Option AV
 | .int _ n=>some (.int k (k.wrap n))
 |_=>none
def bL:AV->Option AV
 | .str s=>some (.str s)
 |_=>none
def cX:AV->AV->AV->Option AV
 | .bool c,a,b=>some (if c then a else b)
 |_,_,_=>none
def dN:AV->Option AV
 | .ptr id i o=>some (.ptr id i o)
 | .di cs=>some (.di cs)
 |_=>none
def bE (agg:Bool) (off n:Nat):AV->Option AV
 | .agg cs=>if off+n<=cs.length then part agg n (cs.drop off)else none
 |_=>none
def aO (i:Nat):AV->Option AV
 | .iO vs=>vs[i]?
 |_=>none
def cR:AV->Option AV
 | .str s=>some (.int .i64 s.size)
 |_=>none
def rowOf (sz:Nat) (v:AV):Option (List AV):=if v.cells.length=sz/\v.cells.all AV.cell then some v.cells else none
def cI (v:AV):Option (List AV):=if v.cells.all AV.cell then some v.cells else none
def rowsOf (sz:Nat):List AV->Option (List (List AV))
 |[]=>some []
 |v::r=>(rowOf sz v).bind fun c=>(rowsOf sz r).map fun cs=>c::cs
def cz:List AV->List (Nat×Nat×AV)->Option (List AV)
 |cs,[]=>some cs
 |cs,(off,n,v)::r=>if v.cells.length=n/\off+n<=cs.length/\v.cells.all AV.cell then cz (cs.take off++v.cells++cs.drop (off+n)) r else none
def dr:Nat:=16777216
def gx (zero:List K):AV->AV->Option (Nat×Row)
 | .int _ l,.int _ c=>if 0<=l/\l<=c/\c<=dr then some (l.toNat,⟨true,zero.length,List.replicate l.toNat (zero.map K.av)⟩)else none
 |_,_=>none
def pO:Nat:=1000000000
def MK.ks (m:MK):Nat:=m.ts.length
def MK.sg (m:MK):Nat:=pO+m.ks
def AV.isAgg:AV->Bool
 | .agg _=>true
 |_=>false
def fZ (m:MK) (key:List AV):List (List AV)->Nat->Option (Option Nat)
 |[],_=>some none
 |r::l,i=>match eS m.ts key (r.take m.ks)with
  |some true=>some (some i)
  |some false=>fZ m key l (i+1)
  |none=>none
def dF (g:Rows) (m:MK):AV->Option (Id×Row)
 | .map id m'=>if m'=m then(g id).map fun r=>(id,r)else none
 |_=>none
def fP (m:MK) (k:AV) (rows:List (List AV)):Option (Option Nat):=if k.isAgg=m.ka/\k.cells.length=m.ks/\k.cells.all AV.cell then fZ m k.cells rows 0 else none
def dL (m:MK) (z:K) (rows:List (List AV)):Option Nat->Option AV
 |some i=>(rows[i]?).bind fun cs=>cs[m.ks]?
 |none=>some z.av
def bt (q:MQ) (vs:List AV) (g:Rows) (id:Id):Option (AV×Option Row):=
 match q,vs with
 | .new m,[]=>some (.map id m,some ⟨true,m.sg,[]⟩)
 | .look m ok z,[x,k]=>(dF g m x).bind fun p=>(fP m k p.2.rows).bind fun fi=>(dL m z p.2.rows fi).map fun v=>(if ok then .iO [v,.bool fi.isSome]else v,none)
 | .len m,[x]=>(dF g m x).map fun p=>(.int .i64 p.2.rows.length,none)
 |_,_=>none
def qj:Nat:=2000000000
def cU:AV->Option Nat
 | .int _ n=>if 0<=n/\n<=1048576 then some n.toNat else none
 |_=>none
def cQ (g:Rows):AV->Option AV
 | .qZ id=>(g id).map fun r=>.int .i64 r.rows.length
 |_=>none
def dV (g:Rows):AV->AV->Option Rows
 | .qZ id,v=>(g id).bind fun r=>if r.w/\qj+r.rows.length<r.sz/\v.cell then some (bK g id {r with rows:=r.rows++[[v]]})else none
 |_,_=>none
def dU (g:Rows):AV->Option (AV×Rows)
 | .qZ id=>(g id).bind fun r=>match r.rows with
  |[v]::rest=>if r.w then some (v,bK g id {r with rows:=rest})else none
  |_=>none
 |_=>none
def dy (rows:List (List AV)) (e:List AV):Option Nat->List (List AV)
 |some i=>rows.set i e
 |none=>rows++[e]
def dC (rows:List (List AV)):Option Nat->List (List AV)
 |some i=>rows.eraseIdx i
 |none=>rows
def bz (q:MW) (vs:List AV) (g:Rows):Option Rows:=
 match q,vs with
 | .set m,[x,k,v]=>(dF g m x).bind fun p=>(fP m k p.2.rows).bind fun fi=>if p.2.w/\v.cell/\v.isAgg=false then some (bK g p.1 {p.2 with rows:=dy p.2.rows (k.cells++[v]) fi})else none
 | .del m,[x,k]=>(dF g m x).bind fun p=>(fP m k p.2.rows).bind fun fi=>if p.2.w then some (bK g p.1 {p.2 with rows:=dC p.2.rows fi})else none
 |_,_=>none
def eJ (o:gp) (ρ:O->AV) (g:Rows) (id:Id):Option (AV×Option Row):=
 match o with
 | .bS x=>some (ρ x,none)
 | .pick c a b=>(cX (ρ c) (ρ a) (ρ b)).map (·,none)
 | .new zero=>some (.ptr id 0 0,some ⟨true,zero.length,[zero.map K.av]⟩)
 | .box x=>(cI (ρ x)).map fun cs=>(.ptr id 0 0,some ⟨true,cs.length,[cs]⟩)
 | .build zero parts=>(cz (zero.map K.av) (parts.map fun(o,n,x)=>(o,n,ρ x))).map fun cs=>(.agg cs,none)
 | .j8 sz len parts=>(rowsOf sz (parts.map ρ)).map fun rs=>(.own id 0 len,some ⟨true,sz,rs⟩)
 | .load agg n a=>(ld g agg n (ρ a)).map (·,none)
 | .AN x=>(dN (ρ x)).map (·,none)
 | .bin op _ x y=>(dM op (ρ x) (ρ y)).map (·,none)
 | .sh left x y=>(gy left (ρ x) (ρ y)).map (·,none)
 | .Kn op x y=>(cY op (ρ x) (ρ y)).map (·,none)
 | .FG neg t x y=>(fA t (ρ x) (ρ y)).map fun b=>(.bool (dk neg b),none)
 | .Q8 neg ts x y=>match ρ x,ρ y with
  | .agg xs,.agg ys=>(eS ts xs ys).map fun b=>(.bool (dk neg b),none)
  |_,_=>none
 | .PA neg K4 x=>(dR K4 (ρ x)).map fun b=>(.bool (dk neg b),none)
 | .Q9 neg x=>(JI (ρ x)).map fun b=>(.bool (dk neg b),none)
 | .not x=>(dS (ρ x)).map (·,none)
 | .neg x=>(dQ (ρ x)).map (·,none)
 | .conv k x=>(cK k (ρ x)).map (·,none)
 | .Er x=>(bL (ρ x)).map (·,none)
 | .slice sz x lo hi=>(bG g sz (ρ x) (lo.map ρ) (hi.map ρ)).map (·,none)
 | .zX x lo hi=>(bc (ρ x) (lo.map ρ) (hi.map ρ)).map (·,none)
 | .eX off x=>(Ed off (ρ x)).map (·,none)
 | .field agg off n x=>(bE agg off n (ρ x)).map (·,none)
 | .dZ sz x i=>(bF g sz (ρ x) (ρ i)).map (·,none)
 | .KY len sz x i=>(cL len sz (ρ x) (ρ i)).map (·,none)
 | .K0 x i=>(cP (ρ x) (ρ i)).map (·,none)
 | .eE agg len n x i=>(cN agg len n (ρ x) (ρ i)).map (·,none)
 | .extract i x=>(aO i (ρ x)).map (·,none)
 | .len x=>(dO (ρ x)).map fun(n:Nat)=>(AV.int .i64 (n:Int),none)
 | .K7 x=>(cR (ρ x)).map (·,none)
 | .Lh f de=>some (.fn f (de.map ρ),none)
 | .Li f first=>some (.tH f (first.map ρ),none)
 | .jR zero l c=>(gx zero (ρ l) (ρ c)).map fun(n,r)=>(.own id 0 n,some r)
 | .mq q xs=>bt q (xs.map ρ) g id
 | .IS x=>(cU (ρ x)).map fun n=>(.qZ id,some ⟨true,qj+n,[]⟩)
 | .IG x=>(cQ g (ρ x)).map (·,none)
 |_=>none
def bm (g:Rows):AV->Option (List (List AV))
 | .bq=>some []
 | .sl rows=>some rows
 | .own id off len=>(g id).bind fun r=>if off+len<=r.rows.length then some ((r.rows.drop off).take len)else none
 |_=>none
def cH (cs:List AV) (off:Nat) (xs:List AV):List AV:=cs.take off++xs++cs.drop (off+xs.length)
def bH (g:Rows) (n:Nat) (v:AV):AV->Option Rows
 | .ptr id i off=>(g id).bind fun r=>(r.rows[i]?).bind fun cs=>
  if r.w/\v.cells.length=n/\v.cells.all AV.cell/\off+n<=cs.length then some (bK g id {r with rows:=r.rows.set i (cH cs off v.cells)})else none
 |_=>none
def aY (g:Rows) (id:Id) (sz:Nat) (x:AV) (ys:List (List AV)):Option (AV×Rows):=
 match x with
 | .bq=>match ys with
  |[]=>some (.bq,g)
  |y::r=>if (y::r).length<=dr/\(y::r).all (fun c=>c.length==sz&&c.all AV.cell)then some (.own id 0 (y::r).length,bK g id ⟨true,sz,y::r⟩)else none
 | .own i 0 len=>(g i).bind fun r=>
  if r.w/\r.sz=sz/\len=r.rows.length/\len+ys.length<=dr/\ys.all (fun c=>c.length==sz&&c.all AV.cell)then some (.own id 0 (len+ys.length),bK (bV g i) id ⟨true,sz,r.rows++ys⟩)else none
 |_=>none
def Fb (g:Rows) (sz:Nat) (x:AV) (ys:List (List AV)):Option (AV×Rows):=
 match x with
 | .own i off len=>(g i).bind fun r=>
  if r.w/\r.sz=sz/\off+len<=r.rows.length/\ys.all (fun c=>c.length==sz&&c.all AV.cell)then
   some (.int .i64 (min ys.length len:Nat),bK g i {r with rows:=r.rows.take off++ys.take (min ys.length len)++r.rows.drop (off+min ys.length len)})else none
 |_=>none
def bD (g:Rows) (zero:List K) (x:AV):Option Rows:=
 match x with
 | .bq=>some g
 | .own i off len=>(g i).bind fun r=>
  if r.w/\r.sz=zero.length/\off+len<=r.rows.length then
   some (bK g i {r with rows:=r.rows.take off++List.replicate len (zero.map K.av)++r.rows.drop (off+len)})else none
 |_=>none
def fF (o:gp) (ρ:O->AV) (g:Rows) (id:Id):Option (AV×Rows):=
 match o with
 | .store n a x=>(bH g n (ρ x) (ρ a)).map fun g'=>(.undef,g')
 | .append sz x y=>(bm g (ρ y)).bind fun ys=>aY g id sz (ρ x) ys
 | .copy sz x y=>(bm g (ρ y)).bind fun ys=>Fb g sz (ρ x) ys
 | .clear zero x=>(bD g zero (ρ x)).map fun g'=>(.undef,g')
 | .mw q xs=>(bz q (xs.map ρ) g).map fun g'=>(.undef,g')
 |_=>none
def uU:AV->List AV->Option (Nat×List AV)
 | .fn f de,l=>some (f,l++de)
 | .tH f first,l=>some (f,first++l)
 |_,_=>none
abbrev fJ:=Nat->List AV->aw->(AV->aw->Prop)->Prop
mutual
def fz (g:Rows):Nat->AV->Option AV
 |0,_=>none
 |n+1,a=>match a with
  | .own id off len=>match g id with
   |some r=>if r.w then(if off+len<=r.rows.length then(ev g n ((r.rows.drop off).take len)).map AV.sl else none)else none
   |none=>none
  | .ptr id i off=>match g id with
   |some r=>if r.w then(match r.rows[i]? with
    |some cs=>(dd g n (cs.drop off)).map AV.di
    |none=>none)else none
   |none=>none
  | .agg cs=>(dd g n cs).map AV.agg
  | .iO vs=>(dd g n vs).map AV.iO
  | .fn f de=>if de.all AV.cell then(dd g n de).map (AV.fn f)else none
  | .map _ _| .tH _ _| .qZ _=>none
  |v=>some v
 termination_by n _=>(n,0)
def dd (g:Rows):Nat->List AV->Option (List AV)
 |n,[]=>some []
 |n,a::r=>match fz g n a with
  |some b=>(dd g n r).map (b::·)
  |none=>none
 termination_by n l=>(n,l.length+1)
def ev (g:Rows):Nat->List (List AV)->Option (List (List AV))
 |n,[]=>some []
 |n,c::r=>match dd g n c with
  |some b=>(ev g n r).map (b::·)
  |none=>none
 termination_by n l=>(n,(l.map (fun c=>c.length+2)).sum+1)
 decreasing_by all_goals simp_wf;try omega
end
mutual
def gn (g:Rows):Nat->AV->Option AV
 |0,_=>none
 |n+1,a=>match a with
  | .own id off len=>match g id with
   |some r=>if r.w then(if off+len<=r.rows.length then(gU g n ((r.rows.drop off).take len)).map AV.sl else none)else none
   |none=>none
  | .ptr id i off=>match g id with
   |some r=>if r.w then(match r.rows[i]? with
    |some cs=>(ew g n (cs.drop off)).map AV.di
    |none=>none)else none
   |none=>none
  | .agg cs=>(ew g n cs).map AV.agg
  | .iO vs=>(ew g n vs).map AV.iO
  | .int k m=>some (.int k m)
  | .bool b=>some (.bool b)
  | .str s=>some (.str s)
  | .bq=>some .bq
  | .gJ=>some .gJ
  | .iT=>some .iT
  | .je=>some .je
  |_=>none
 termination_by n _=>(n,0)
def ew (g:Rows):Nat->List AV->Option (List AV)
 |n,[]=>some []
 |n,a::r=>match gn g n a with
  |some b=>(ew g n r).map (b::·)
  |none=>none
 termination_by n l=>(n,l.length+1)
def gU (g:Rows):Nat->List (List AV)->Option (List (List AV))
 |n,[]=>some []
 |n,c::r=>match ew g n c with
  |some b=>(gU g n r).map (b::·)
  |none=>none
 termination_by n l=>(n,(l.map (fun c=>c.length+2)).sum+1)
 decreasing_by all_goals simp_wf;try omega
end
def dK (g:Rows):Rows:=fun id=>(g id).map fun r=>{r with w:=true}
def PC (X:fJ) (f:Nat) (args:List AV) (σ:aw) (K:AV->Prop):Prop:=
 X f args ⟨ro σ.get,σ.next⟩ fun r σ'=>∃r',fz σ'.get 6 r=some r'/\K r'
def PCv (X:fJ) (f:Nat) (args:List AV) (σ:aw) (K:AV->Prop):Prop:=
 ∃eF,dd (dK σ.get) 6 args=some eF/\X f eF ⟨fun _=>none,σ.next⟩ fun r σ'=>∃r',gn σ'.get 6 r=some r'/\K r'
def fI (X:fJ) (f:Nat) (args:List AV) (σ:aw) (K:AV->Prop):Prop:=PC X f args σ K∨PCv X f args σ K
def aM (g:Option (Nat×Bool)) (env:Env):Bool:=
 match g with
 |none=>true
 |some (t,b)=>match env t with
  | .bool c=>c==b
  |_=>false
def AV.plain:AV->Bool
 | .int .. | .bool _| .str _| .bq| .gJ| .iT| .je=>true
 |_=>false
def CM (X:fJ) (f:Nat) (args:List AV) (σ:aw) (sz:Nat) (rows:List (List AV)):Prop:=
 (∀c∈rows,∀a∈c,a.plain=true)/\∃eF,dd (dK σ.get) 6 args=some eF/\X f eF ⟨fun _=>none,σ.next⟩ fun r σ'=>∃id,r=.own id 0 rows.length/\σ'.get id=some ⟨true,sz,rows⟩
def cF (X:fJ) (draw:Bool) (hid:List Nat) (site:Nat) (f:Nat) (args:List AV) (σ:aw) (next:AV->aw->Prop):Prop:=
 (∃r,fI X f args ⟨fE hid σ.next σ.get,σ.next+1⟩ (fun r'=>r'=r)/\next r σ)∨
 (draw=false/\X f args ⟨σ.get,σ.next+1⟩ next)∨
 (hid.contains site=true/\∃sz rows,CM X f args ⟨fE hid σ.next σ.get,σ.next+1⟩ sz rows/\next (.own ⟨site,σ.next⟩ 0 rows.length) ⟨bK σ.get ⟨site,σ.next⟩ ⟨true,sz,rows⟩,σ.next⟩)
def fj (X:fJ) (draw:Bool) (o:bB) (env:Env) (σ:aw) (next:AV->aw->Prop):Prop:=
 match o.op with
 | .call f args=>cF X draw o.hid o.site f (args.map (da env)) σ next
 | .tj x args=>match da env x with
  | .fn f de=>cF X draw o.hid o.site f (args.map (da env)++de) σ next
  | .tH f first=>cF X draw o.hid o.site f (first++args.map (da env)) σ next
  |_=>False
 | .store .. | .append .. | .copy .. | .clear .. | .mw .. =>match fF o.op (da env) σ.get ⟨o.site,σ.next⟩with
  |some (v,g)=>next v ⟨g,σ.next⟩
  |none=>False
 |_=>match eJ o.op (da env) (fE o.hid σ.next σ.get) ⟨o.site,σ.next⟩with
  |some (v,some r)=>next v ⟨bK σ.get ⟨o.site,σ.next⟩ r,σ.next⟩
  |some (v,none)=>next v σ
  |none=>False
def wpOps (X:fJ) (draw:Bool):List bB->(Env->aw->Prop)->Env->aw->Prop
 |[],K,env,σ=>K env ⟨σ.get,σ.next+1⟩
 |o::r,K,env,σ=>
  if aM o.guard env then fj X draw o env σ fun v σ'=>wpOps X draw r K (upd env o.dst v) σ'
  else wpOps X draw r K (upd env o.dst .undef) σ
def cw:List bB->(Env->aw->Prop)->Env->aw->Prop
 |[],K,env,σ=>K env ⟨σ.get,σ.next+1⟩
 |o::r,K,env,σ=>o.guard=none/\match o.op with
  | .snd x y=>match dV σ.get (da env x) (da env y)with
   |some g=>cw r K (upd env o.dst .undef) ⟨g,σ.next⟩
   |none=>False
  | .N8 x=>match dU σ.get (da env x)with
   |some (v,g)=>cw r K (upd env o.dst v) ⟨g,σ.next⟩
   |none=>False
  |op=>match eJ op (da env) σ.get ⟨o.site,σ.next⟩with
   |some (v,none)=>cw r K (upd env o.dst v) σ
   |_=>False
def dp (next:Env->aw->Prop) (Q:Ex->Env->aw->Prop):Ex->Env->aw->Prop
 | .normal=>next
 |e=>Q e
def bl (id:Nat) (Q:Ex->Env->aw->Prop):Ex->Env->aw->Prop
 | .exit kF=>if kF=id then Q .normal else Q (.exit kF)
 |e=>Q e
def EZ (W:(Ex->Env->aw->Prop)->Env->aw->Prop) (Q:Ex->Env->aw->Prop):Nat->Env->aw->Prop
 |0=>fun _ _=>False
 |n+1=>W (dp (EZ W Q n) Q)
def K8 (t s:Nat) (y:O) (env:Env) (n:Nat):Prop:=(∃len,env t=.own ⟨s,n⟩ 0 len)/\∀id o l,da env y=.own id o l->id.cq≠n
def eh (X:fJ):VC->(Ex->Env->aw->Prop)->Env->aw->Prop
 | .skip,Q=>Q .normal
 | .dm draw ops,Q=>wpOps X draw ops (Q .normal)
 | .seq a b,Q=>eh X a (dp (eh X b Q) Q)
 | .cond c x y,Q=>fun env σ=>match da env c with
  | .bool b=>if b then eh X x Q env σ else eh X y Q env σ
  |_=>False
 | .block id c,Q=>eh X c (bl id Q)
 | .loop c,Q=>fun env σ=>∃n,EZ (eh X c) Q n env σ
 | .exit id,Q=>Q (.exit id)
 | .ret,Q=>Q .ret
 | .one o c,Q=>fun env σ=>if aM o.guard env then fj X false o env σ fun v σ'=>eh X c Q (upd env o.dst v) σ' else eh X c Q (upd env o.dst .undef) σ
 | .both a b,Q=>fun env σ=>eh X a Q env σ/\eh X b Q env σ
 | .loc t s y c,Q=>fun env σ=>K8 t s y env σ.next/\eh X c Q env σ
 | .MT ops,Q=>cw ops (Q .normal)
def ij (env:Env) (g:Rows):oj->Option AV
 | .tmp t=>some (env t)
 | .cell agg n t=>ld g agg n (env t)
def ft (env:Env) (g:Rows):List oj->Option (List AV)
 |[]=>some []
 |r::l=>(ij env g r).bind fun v=>(ft env g l).map (v::·)
def fh:List AV->AV
 |[v]=>v
 |l=>.iO l
def cu (args:List AV):Env:=fun t=>args.getD t .undef
def kS (res:List oj) (K:AV->aw->Prop):Ex->Env->aw->Prop
 | .exit _,_,_=>False
 |_,env,σ=>∃vs,ft env σ.get res=some vs/\K (fh vs) σ
end Go.Proofs.YtgoelphibofcmaaGreat.V

namespace Go.Proofs.YtgoelphibofcmaaGreat.V
open Go.RowKit
inductive jw (P:Program) (w:World) (D:Nat->Prop):AV->Value->Prop
 |int (k n):jw P w D (.int k n) (.int k n)
 |bool (b):jw P w D (.bool b) (.bool b)
 |str (s):jw P w D (.str s) (.string s)
 |bq:jw P w D .bq (.slice none 0 0)
 |gJ:jw P w D .gJ (.pointer none)
 |iT:jw P w D .iT .nilFunc
 |As (a c):c<=maxLen->jw P w D (.sl []) (.slice a 0 c)
 |sl (rows b o n c sz) (vs:Nat->Nat->Value):rows.length=n->n<=c->c<=maxLen->D b->(∀cs∈rows,cs.length=sz)->(∀cs∈rows,∀a∈cs,a.cell=true)->
   (∀i j,i<n->j<sz->w.cell? ⟨b,o+(i*sz+j),none⟩=some (vs i j))->
   (∀i j cs a,rows[i]? =some cs->cs[j]? =some a->jw P w D a (vs i j))->jw P w D (.sl rows) (.slice (some ⟨b,o,none⟩) n c)
 |di (cs b o) (vs:Nat->Value):D b->(∀a∈cs,a.cell=true)->(∀j,j<cs.length->w.cell? ⟨b,o+j,none⟩=some (vs j))->
   (∀j a,cs[j]? =some a->jw P w D a (vs j))->jw P w D (.di cs) (.pointer (some ⟨b,o,none⟩))
 |agg (cs) (vs:Array Value) (f:Nat->Value):vs.size=cs.length->(∀a∈cs,a.cell=true)->(∀j,j<cs.length->vs[j]? =some (f j))->(∀j a,cs[j]? =some a->jw P w D a (f j))->jw P w D (.agg cs) (.agg vs)
 |fn (f de) (vs:Array Value) (g:Nat->Value):fM P f=true->vs.size=de.length->(∀j,j<de.length->vs[j]? =some (g j))->(∀j a,de[j]? =some a->jw P w D a (g j))->jw P w D (.fn f de) (.func (.func f) #[] vs)
 |je:jw P w D .je (.map none)
inductive BK where
 |map (m:MK)
 |chan (cap:Nat)
structure r8 where
 b:Nat
 sz:Nat
 C:Nat
 k:Option BK
abbrev Names:=Id->Option r8
inductive dj (P:Program) (w:World) (D:Nat->Prop) (ι:Names):AV->Value->Prop
 |eU (a v):jw P w D a v->dj P w D ι a v
 |own (id off len o cap B):ι id=some B->B.k=none->len<=cap->(cap=0∨o=off*B.sz)->(off+cap)*B.sz<=B.C->cap<=maxLen->dj P w D ι (.own id off len) (.slice (some ⟨B.b,o,none⟩) len cap)
 |ptr (id i off B):ι id=some B->B.k=none->dj P w D ι (.ptr id i off) (.pointer (some ⟨B.b,i*B.sz+off,none⟩))
 |agg (cs) (vs:Array Value) (f:Nat->Value):vs.size=cs.length->(∀a∈cs,a.cell=true)->(∀j,j<cs.length->vs[j]? =some (f j))->(∀j a,cs[j]? =some a->dj P w D ι a (f j))->dj P w D ι (.agg cs) (.agg vs)
 |iO (cs) (vs:Array Value) (f:Nat->Value):vs.size=cs.length->(∀j,j<cs.length->vs[j]? =some (f j))->(∀j a,cs[j]? =some a->dj P w D ι a (f j))->dj P w D ι (.iO cs) (.tuple vs)
 |fn (f de) (vs:Array Value) (g:Nat->Value):fM P f=true->vs.size=de.length->(∀j,j<de.length->vs[j]? =some (g j))->(∀j a,de[j]? =some a->dj P w D ι a (g j))->dj P w D ι (.fn f de) (.func (.func f) #[] vs)
 |qZ (id c B):ι id=some B->B.k=some (.chan c)->dj P w D ι (.qZ id) (.chan (some B.b))
 |map (id m B):ι id=some B->B.k=some (.map m)->dj P w D ι (.map id m) (.map (some B.b))
 |tH (f de) (vs:Array Value) (g:Nat->Value):fM P f=true->vs.size=de.length->(∀j,j<de.length->vs[j]? =some (g j))->(∀j a,de[j]? =some a->dj P w D ι a (g j))->dj P w D ι (.tH f de) (.func (.func f) vs #[])
variable {P:Program} {w w':World} {D D':Nat->Prop} {ι ι':Names}
theorem jw.frame (hD:∀b,D b->w'.heap[b]? =w.heap[b]?) (hs:∀b,D b->D' b) {a:AV} {v:Value} (h:jw P w D a v):jw P w' D' a v:=by
 induction h with
 |int k n=>exact .int k n
 |bool b=>exact .bool b
 |str s=>exact .str s
 |bq=>exact .bq
 |gJ=>exact .gJ
 |iT=>exact .iT
 |je=>exact .je
 |As a c h=>exact .As a c h
 |sl rows b o n c sz vs h1 h2 h3 h4 h5 HX h6 _ ih=>exact .sl rows b o n c sz vs h1 h2 h3 (hs b h4) h5 HX (fun i j hi hj=>(World.cell?_of_block (hD b h4)).trans (h6 i j hi hj)) ih
 |di cs b o vs h1 M6 h2 _ ih=>exact .di cs b o vs (hs b h1) M6 (fun j hj=>(World.cell?_of_block (hD b h1)).trans (h2 j hj)) ih
 |agg cs vs f h1 h2 h3 _ ih=>exact .agg cs vs f h1 h2 h3 ih
 |fn f de vs g h1 h2 h3 _ ih=>exact .fn f de vs g h1 h2 h3 ih
theorem dj.frame (hD:∀b,D b->w'.heap[b]? =w.heap[b]?) (hs:∀b,D b->D' b) (hι:∀id B,ι id=some B->ι' id=some B) {a:AV} {v:Value} (h:dj P w D ι a v):dj P w' D' ι' a v:=by
 induction h with
 |eU a v h=>exact .eU a v (h.frame hD hs)
 |map id m B h1 h2=>exact .map id m B (hι _ _ h1) h2
 |qZ id c B h1 h2=>exact .qZ id c B (hι _ _ h1) h2
 |own id off len o cap B h1 h2 h3 h4 h5 h6=>exact .own id off len o cap B (hι _ _ h1) h2 h3 h4 h5 h6
 |ptr id i off B h1 h2=>exact .ptr id i off B (hι _ _ h1) h2
 |agg cs vs f h1 h2 h3 _ ih=>exact .agg cs vs f h1 h2 h3 ih
 |iO cs vs f h1 h2 _ ih=>exact .iO cs vs f h1 h2 ih
 |fn f de vs g h1 h2 h3 _ ih=>exact .fn f de vs g h1 h2 h3 ih
 |tH f de vs g h1 h2 h3 _ ih=>exact .tH f de vs g h1 h2 h3 ih
theorem dj.undef:dj P w D ι .undef Go.undef:=.iO [] #[] (fun _=>Go.undef) rfl (fun j hj=>by simp at hj) (fun j a h=>by simp at h)
theorem wo (c:K):dj P w D ι c.av c.val:=by
 cases c with
 |int k n=>exact .eU _ _ (.int k n)
 |bool b=>exact .eU _ _ (.bool b)
 |str l=>exact .eU _ _ (.str _)
 |bq=>exact .eU _ _ .bq
 |gJ=>exact .eU _ _ .gJ
 |iT=>exact .eU _ _ .iT
 |je=>exact .eU _ _ .je
theorem K.mD (c:K):c.av.cell=true:=by cases c<;>rfl
theorem zy {v:Value} {c:K} (h:F4 v=some c):v=c.val:=by
 unfold F4 at h
 split at h<;>simp at h<;>subst h<;>rfl
theorem dj.AM {a:AV} {v:Value} (h:dj P w D ι a v) (hc:a.cell=true):v.cells= #[v]/\(∀vs,v≠.agg vs)/\(∀vs,v≠.tuple vs):=by
 cases h with
 |eU a v h=>cases h<;>simp_all [AV.cell,Value.cells]
 |own=>simp[Value.cells]
 |map=>simp[Value.cells]
 |qZ=>simp[Value.cells]
 |ptr=>simp[Value.cells]
 |agg=>simp[AV.cell]at hc
 |iO=>simp[AV.cell]at hc
 |fn=>simp[Value.cells]
 |tH=>simp[Value.cells]
theorem dj.cells {a:AV} {v:Value} (h:dj P w D ι a v) (ha:a.cells.all AV.cell=true):v.cells.size=a.cells.length/\∃f:Nat->Value,(∀j,j<a.cells.length->v.cells[j]? =some (f j))/\∀j x,a.cells[j]? =some x->dj P w D ι x (f j):=by
 have one:∀(a:AV) (v:Value),a.cell=true->a.cells=[a]->dj P w D ι a v->v.cells.size=a.cells.length/\∃f:Nat->Value,(∀j,j<a.cells.length->v.cells[j]? =some (f j))/\∀j x,a.cells[j]? =some x->dj P w D ι x (f j):=by
  intro a v hc du h
  obtain⟨h1,_,_⟩:=h.AM hc
  rw[h1,du]
  refine⟨rfl,fun _=>v,fun j hj=>?_,fun j x hx=>?_⟩
  ·have:j=0:=by simp at hj;omega
   subst this;rfl
  ·cases j with
   |zero=>simp at hx;subst hx;exact h
   |succ j=>simp at hx
 cases h with
 |eU a v h=>
  cases h with
  |agg cs vs f h1 h2 h3 h4=>exact⟨h1,f,h3,fun j x hx=>.eU _ _ (h4 j x hx)⟩
  |_=>exact one _ _ rfl rfl (.eU _ _ (by constructor<;>assumption))
 |own id off len o cap B h1 h2 h3 h4 h5 h6=>exact one _ _ rfl rfl (.own id off len o cap B h1 h2 h3 h4 h5 h6)
 |ptr id i off B h1 h2=>exact one _ _ rfl rfl (.ptr id i off B h1 h2)
 |map id m B h1 h2=>exact one _ _ rfl rfl (.map id m B h1 h2)
 |qZ id c B h1 h2=>exact one _ _ rfl rfl (.qZ id c B h1 h2)
 |agg cs vs f h1 h2 h3 h4=>exact⟨h1,f,h3,h4⟩
 |iO cs vs f h1 h2 h3=>simp[AV.cells,AV.cell]at ha
 |fn f de vs g h1 h2 h3 h4=>exact one _ _ rfl rfl (.fn f de vs g h1 h2 h3 h4)
 |tH f de vs g h1 h2 h3 h4=>exact one _ _ rfl rfl (.tH f de vs g h1 h2 h3 h4)
structure kr (P:Program) (w:World) (D:Nat->Prop) (ι:Names) (B:r8) (r:Row):Prop where
 sz:B.sz=r.sz
 Cm:∃cells T,w.heap[B.b]? =some (.cells cells T (0,0))/\cells.size=B.C
 fits:r.rows.length*r.sz<=B.C
 len:∀cs∈r.rows,cs.length=r.sz
 flat:∀cs∈r.rows,∀a∈cs,a.cell=true
 at_:∀i j cs a,r.rows[i]? =some cs->cs[j]? =some a->∃v,w.cell? ⟨B.b,i*r.sz+j,none⟩=some v/\dj P w D ι a v
def MD (es:Array MapEntry) (clock:Nat):Prop:=(∀x∈es.toList,x.born<clock)/\(es.toList.map (·.born)).Nodup
def LV (P:Program) (w:World) (D:Nat->Prop) (ι:Names) (B:r8) (m:MK) (r:Row):Prop:=
 ∃(es:Array MapEntry) (clock:Nat),w.heap[B.b]? =some (.map es clock)/\es.size=r.rows.length/\((∀cs∈r.rows,cs.length=m.ks+1)/\MD es clock)/\
  ∀(i:Nat) (cs:List AV),r.rows[i]? =some cs->∃(e:MapEntry) (kv vv:AV),es[i]? =some e/\part m.ka m.ks cs=some kv/\cs[m.ks]? =some vv/\dj P w D ι kv e.key/\dj P w D ι vv e.val
def Hd (P:Program) (w:World) (D:Nat->Prop) (ι:Names) (B:r8) (c:Nat) (r:Row):Prop:=
 ∃(buf:Array Value) (s q:Nat),w.heap[B.b]? =some (.chan c buf false s q false)/\buf.size=r.rows.length/\
  ∀(i:Nat) (cs:List AV),r.rows[i]? =some cs->∃(a:AV) (u:Value),cs=[a]/\buf[i]? =some u/\dj P w D ι a u
structure ia (P:Program) (w:World) (D:Nat->Prop) (ι:Names) (B:r8) (r:Row):Prop where
 sz:B.sz=r.sz
 flat:∀cs∈r.rows,∀a∈cs,a.cell=true
 row:B.k=none->kr P w D ι B r
 map:∀m,B.k=some (.map m)->r.sz=m.sg/\LV P w D ι B m r
 chan:∀c,B.k=some (.chan c)->r.sz=qj+c/\Hd P w D ι B c r
theorem kr.obj {B:r8} {r:Row} (R:kr P w D ι B r) (h:B.k=none):ia P w D ι B r:=⟨R.sz,R.flat,fun _=>R,fun m hm=>(by rw[h]at hm;cases hm),fun m hm=>by rw[h]at hm;cases hm⟩
theorem ia.flag {B:r8} {r:Row} (R:ia P w D ι B r) (b:Bool):ia P w D ι B {r with w:=b}:=⟨R.sz,R.flat,fun h=>⟨R.sz,(R.row h).Cm,(R.row h).fits,(R.row h).len,R.flat,(R.row h).at_⟩,R.map,R.chan⟩
theorem ia.cells {B:r8} {r:Row} (R:ia P w D ι B r) (h:r.sz<pO):B.k=none:=by
 cases hk:B.k with
 |none=>rfl
 |some m=>
  cases m with
  |map m=>
   have h1:=(R.map m hk).1
   unfold MK.sg at h1
   omega
  |chan c=>
   have h1:=(R.chan c hk).1
   unfold qj at h1
   unfold pO at h
   omega
theorem ia.Lk {B:r8} {r:Row} (R:ia P w D ι B r) {c:Array Value} {T:TypeId} {z:Nat×Nat} (h:w.heap[B.b]? =some (.cells c T z)):B.k=none:=by
 cases hk:B.k with
 |none=>rfl
 |some m=>
  cases m with
  |map m=>obtain⟨_,es,c,h3,_⟩:=R.map m hk;rw[h]at h3;cases h3
  |chan c=>obtain⟨_,buf,s,q,h3,_⟩:=R.chan c hk;rw[h]at h3;cases h3
theorem ia.lt {B:r8} {r:Row} (R:ia P w D ι B r):B.b<w.heap.size:=by
 cases h:B.k with
 |none=>
  obtain⟨c,T,h3,_⟩:=(R.row h).Cm
  exact(Array.getElem?_eq_some_iff.1 h3).1
 |some m=>
  cases m with
  |map m=>obtain⟨_,es,c,h3,_⟩:=R.map m h;exact(Array.getElem?_eq_some_iff.1 h3).1
  |chan c=>obtain⟨_,buf,s,q,h3,_⟩:=R.chan c h;exact(Array.getElem?_eq_some_iff.1 h3).1
structure gi (P:Program) (hs:Nat) (D:Nat->Prop) (ι:Names) (g:Rows) (w:World):Prop where
 lo:hs<=w.heap.size
 dead:∀b,D b->b<w.heap.size
 row:∀id r,g id=some r->∃B,ι id=some B/\ia P w D ι B r/\(r.w=true->hs<=B.b)/\(r.w=true->¬D B.b)
 inj:∀id kF r r' B B',g id=some r->g kF=some r'->r.w=true->ι id=some B->ι kF=some B'->B.b=B'.b->id=kF
def Used (ι:Names) (n:Nat) (U:Nat->Prop):Prop:=∀id,ι id≠none->id.cq<n∨(id.cq=n/\U id.site)
structure Step (hs:Nat) (D:Nat->Prop) (ι:Names) (w:World) (D':Nat->Prop) (ι':Names) (w':World):Prop where
 below:Below hs w w'
 uf:∀b,D b->w'.heap[b]? =w.heap[b]?
 dead:∀b,D b->D' b
 names:∀id B,ι id=some B->ι' id=some B
 new:∀b,D' b->D b∨hs<=b
theorem Step.refl (hs:Nat) (D:Nat->Prop) (ι:Names) (w:World):Step hs D ι w D ι w:=⟨Below.refl _ _,fun _ _=>rfl,fun _ h=>h,fun _ _ h=>h,fun _ h=>.inl h⟩
theorem Step.trans {hs:Nat} {D D' D'':Nat->Prop} {ι ι' Q7:Names} {w w' J8:World} (h:Step hs D ι w D' ι' w') (k:Step hs D' ι' w' D'' Q7 J8):Step hs D ι w D'' Q7 J8:=
 ⟨h.below.trans k.below,fun b hb=>(k.uf b (h.dead b hb)).trans (h.uf b hb),fun b hb=>k.dead b (h.dead b hb),fun id B hB=>k.names id B (h.names id B hB),fun b hb=>by
  rcases k.new b hb with hb|hb
  ·exact h.new b hb
  ·exact .inr hb⟩
theorem Step.rep {hs:Nat} {D D':Nat->Prop} {ι ι':Names} {w w':World} (h:Step hs D ι w D' ι' w') {a:AV} {v:Value} (hr:dj P w D ι a v):dj P w' D' ι' a v:=hr.frame h.uf h.dead h.names
theorem dz {k n} {v:Value} (h:dj P w D ι (.int k n) v):v=.int k n:=by
 cases h with
 |eU _ _ h=>cases h;rfl
theorem fa {b} {v:Value} (h:dj P w D ι (.bool b) v):v=.bool b:=by
 cases h with
 |eU _ _ h=>cases h;rfl
theorem fC {s} {v:Value} (h:dj P w D ι (.str s) v):v=.string s:=by
 cases h with
 |eU _ _ h=>cases h;rfl
theorem jZ {v:Value} (h:dj P w D ι .bq v):v=.slice none 0 0:=by
 cases h with
 |eU _ _ h=>cases h;rfl
theorem wq {v:Value} (h:dj P w D ι .iT v):v=.nilFunc:=by
 cases h with
 |eU _ _ h=>cases h;rfl
theorem iP {cs} {v:Value} (h:dj P w D ι (.agg cs) v):∃(vs:Array Value) (f:Nat->Value),v=.agg vs/\vs.size=cs.length/\(∀a∈cs,a.cell=true)/\(∀j,j<cs.length->vs[j]? =some (f j))/\∀j a,cs[j]? =some a->dj P w D ι a (f j):=by
 cases h with
 |eU _ _ h=>
  cases h with
  |agg cs vs f h1 h2 h3 h4=>exact⟨vs,f,rfl,h1,h2,h3,fun j a h=>.eU _ _ (h4 j a h)⟩
 |agg cs vs f h1 h2 h3 h4=>exact⟨vs,f,rfl,h1,h2,h3,h4⟩
theorem uB {cs} {v:Value} (h:dj P w D ι (.iO cs) v):∃(vs:Array Value) (f:Nat->Value),v=.tuple vs/\vs.size=cs.length/\(∀j,j<cs.length->vs[j]? =some (f j))/\∀j a,cs[j]? =some a->dj P w D ι a (f j):=by
 cases h with
 |eU _ _ h=>cases h
 |iO cs vs f h1 h2 h3=>exact⟨vs,f,rfl,h1,h2,h3⟩
theorem DL {f de} {v:Value} (h:dj P w D ι (.fn f de) v):∃(vs:Array Value) (g:Nat->Value),v=.func (.func f) #[] vs/\fM P f=true/\vs.size=de.length/\(∀j,j<de.length->vs[j]? =some (g j))/\∀j a,de[j]? =some a->dj P w D ι a (g j):=by
 cases h with
 |eU _ _ h=>
  cases h with
  |fn f de vs g h1 h2 h3 h4=>exact⟨vs,g,rfl,h1,h2,h3,fun j a h=>.eU _ _ (h4 j a h)⟩
 |fn f de vs g h1 h2 h3 h4=>exact⟨vs,g,rfl,h1,h2,h3,h4⟩
theorem Jb {v:Value} (h:dj P w D ι .gJ v):v=.pointer none:=by
 cases h with
 |eU _ _ h=>cases h;rfl
theorem BY {v:Value} (h:dj P w D ι .je v):v=.map none:=by
 cases h with
 |eU _ _ h=>cases h;rfl
theorem Ly {f de} {v:Value} (h:dj P w D ι (.tH f de) v):∃(vs:Array Value) (g:Nat->Value),v=.func (.func f) vs #[]/\fM P f=true/\vs.size=de.length/\(∀j,j<de.length->vs[j]? =some (g j))/\∀j a,de[j]? =some a->dj P w D ι a (g j):=by
 cases h with
 |eU _ _ h=>cases h
 |tH f de vs g h1 h2 h3 h4=>exact⟨vs,g,rfl,h1,h2,h3,h4⟩
theorem iu {id off len} {v:Value} (h:dj P w D ι (.own id off len) v):∃o cap B,v=.slice (some ⟨B.b,o,none⟩) len cap/\ι id=some B/\len<=cap/\(cap=0∨o=off*B.sz)/\(off+cap)*B.sz<=B.C/\cap<=maxLen/\B.k=none:=by
 cases h with
 |eU _ _ h=>cases h
 |own id off len o cap B h1 h2 h3 h4 h5 h6=>exact⟨o,cap,B,rfl,h1,h3,h4,h5,h6,h2⟩
theorem jr {id i off} {v:Value} (h:dj P w D ι (.ptr id i off) v):∃B,v=.pointer (some ⟨B.b,i*B.sz+off,none⟩)/\ι id=some B/\B.k=none:=by
 cases h with
 |eU _ _ h=>cases h
 |ptr id i off B h1 h2=>exact⟨B,rfl,h1,h2⟩
theorem Lv {id} {v:Value} (h:dj P w D ι (.qZ id) v):∃B c,v=.chan (some B.b)/\ι id=some B/\B.k=some (.chan c):=by
 cases h with
 |eU _ _ h=>cases h
 |qZ id c B h1 h2=>exact⟨B,c,rfl,h1,h2⟩
theorem Lx {id m} {v:Value} (h:dj P w D ι (.map id m) v):∃B,v=.map (some B.b)/\ι id=some B/\B.k=some (.map m):=by
 cases h with
 |eU _ _ h=>cases h
 |map id m B h1 h2=>exact⟨B,rfl,h1,h2⟩
theorem kR {cs} {v:Value} (h:dj P w D ι (.di cs) v):∃b o,∃vs:Nat->Value,v=.pointer (some ⟨b,o,none⟩)/\D b/\(∀a∈cs,a.cell=true)/\(∀j,j<cs.length->w.cell? ⟨b,o+j,none⟩=some (vs j))/\∀j a,cs[j]? =some a->jw P w D a (vs j):=by
 cases h with
 |eU _ _ h=>
  cases h with
  |di cs b o vs h1 h2 h3 h4=>exact⟨b,o,vs,rfl,h1,h2,h3,h4⟩
theorem wu {rows} {v:Value} (h:dj P w D ι (.sl rows) v):∃A c,v=.slice A rows.length c/\rows.length<=c/\c<=maxLen/\
  (rows=[]∨∃b o sz,∃vs:Nat->Nat->Value,A=some ⟨b,o,none⟩/\D b/\(∀cs∈rows,cs.length=sz)/\(∀cs∈rows,∀a∈cs,a.cell=true)/\
   (∀i j,i<rows.length->j<sz->w.cell? ⟨b,o+(i*sz+j),none⟩=some (vs i j))/\∀i j cs a,rows[i]? =some cs->cs[j]? =some a->jw P w D a (vs i j)):=by
 cases h with
 |eU _ _ h=>
  cases h with
  |As a c h=>exact⟨a,c,rfl,Nat.zero_le _,h,.inl rfl⟩
  |sl rows b o n c sz vs h1 h2 h3 h4 h5 HX h6 h7=>subst h1;exact⟨_,c,rfl,h2,h3,.inr ⟨b,o,sz,vs,rfl,h4,h5,HX,h6,h7⟩⟩
inductive eH:AV->Prop
 |int (k n):eH (.int k n)
 |bool (b):eH (.bool b)
 |str (s):eH (.str s)
 |bq:eH .bq
 |gJ:eH .gJ
 |iT:eH .iT
 |sl (rows):rows.length<=maxLen->(∀cs∈rows,∀a∈cs,eH a)->eH (.sl rows)
 |own (id off len):eH (.own id off len)
 |ptr (id i off):eH (.ptr id i off)
 |di (cs):(∀a∈cs,eH a)->eH (.di cs)
 |agg (cs):(∀a∈cs,eH a)->eH (.agg cs)
 |iO (cs):(∀a∈cs,eH a)->eH (.iO cs)
 |fn (f de):(∀a∈de,eH a)->eH (.fn f de)
 |map (id m):eH (.map id m)
 |qZ (id):eH (.qZ id)
 |je:eH .je
 |tH (f de):(∀a∈de,eH a)->eH (.tH f de)
theorem eH.len {rows:List (List AV)} (h:eH (.sl rows)):rows.length<=9223372036854775807:=by
 cases h with
 |sl _ h _=>unfold maxLen at h;omega
theorem eH.cell {rows:List (List AV)} (h:eH (.sl rows)) {cs:List AV} (hc:cs∈rows) {a:AV} (ha:a∈cs):eH a:=by
 cases h with
 |sl _ _ h=>exact h cs hc a ha
theorem eH.MG {cs:List AV} (h:eH (.agg cs)) {a:AV} (ha:a∈cs):eH a:=by
 cases h with
 |agg _ h=>exact h a ha
theorem eH.Bw {cs:List AV} (h:eH (.di cs)) {a:AV} (ha:a∈cs):eH a:=by
 cases h with
 |di _ h=>exact h a ha
theorem oN {l:List AV} {p:AV->Prop} (h:∀(j:Nat) (a:AV),l[j]? =some a->p a):∀a∈l,p a:=fun a ha=>by
 obtain⟨j,hj,rfl⟩:=List.getElem_of_mem ha
 exact h j _ (List.getElem?_eq_getElem hj)
theorem jw.IF {a:AV} {v:Value} (h:jw P w D a v):eH a:=by
 induction h with
 |int k n=>exact .int k n
 |bool b=>exact .bool b
 |str s=>exact .str s
 |bq=>exact .bq
 |gJ=>exact .gJ
 |iT=>exact .iT
 |je=>exact .je
 |As a c h=>exact .sl [] (Nat.zero_le _) (fun cs h=>by cases h)
 |sl rows b o n c sz vs h1 h2 h3 h4 h5 HX h6 _ ih=>
  exact .sl rows (by omega) fun cs du a ha=>by
   obtain⟨i,hi,rfl⟩:=List.getElem_of_mem du
   obtain⟨j,hj,rfl⟩:=List.getElem_of_mem ha
   exact ih i j _ _ (List.getElem?_eq_getElem hi) (List.getElem?_eq_getElem hj)
 |di cs b o vs h1 M6 h2 _ ih=>exact .di cs (oN ih)
 |agg cs vs f h1 h2 h3 _ ih=>exact .agg cs (oN ih)
 |fn f de vs g h1 h2 h3 _ ih=>exact .fn f de (oN ih)
theorem dj.IF {a:AV} {v:Value} (h:dj P w D ι a v):eH a:=by
 induction h with
 |eU a v h=>exact h.IF
 |own id off len o cap B=>exact .own _ _ _
 |ptr id i off B=>exact .ptr _ _ _
 |map id m B=>exact .map _ _
 |qZ id c B=>exact .qZ _
 |agg cs vs f h1 h2 h3 _ ih=>exact .agg cs (oN ih)
 |iO cs vs f h1 h2 _ ih=>exact .iO cs (oN ih)
 |fn f de vs g h1 h2 h3 _ ih=>exact .fn f de (oN ih)
 |tH f de vs g h1 h2 h3 _ ih=>exact .tH f de (oN ih)
end Go.Proofs.YtgoelphibofcmaaGreat.V

namespace Go.Proofs.YtgoelphibofcmaaGreat.V
open Go.RowKit
variable {P:Program} {w w':World} {D D':Nat->Prop} {ι ι':Names}
def cC (P:Program) (w:World) (D:Nat->Prop) (ι:Names) (env:Env) (a:Act):Prop:=∀t,dj P w D ι (env t) (a.tmps.getD t undef)
theorem rK {vs:List Value} {cs:List K} (h:vs.mapM F4=some cs):cs.length=vs.length/\∀(j:Nat) (c:K),cs[j]? =some c->vs[j]? =some c.val:=by
 induction vs generalizing cs with
 |nil=>simp at h;subst h;simp
 |cons v r ih=>
  simp only[List.mapM_cons,Option.bind_eq_bind,Option.bind_eq_some_iff]at h
  obtain⟨c,hc,pR,du,h⟩:=h
  simp at h;subst h
  obtain⟨h1,h2⟩:=ih du
  refine⟨by simp[h1],fun j d hd=>?_⟩
  cases j with
  |zero=>simp at hd ⊢;subst hd;exact zy hc
  |succ j=>simp at hd ⊢;exact h2 j d hd
theorem TQ {vs:List Value} {cs:List K} (h:vs.mapM F4=some cs):dj P w D ι (.agg (cs.map K.av)) (.agg vs.toArray):=by
 obtain⟨h1,h2⟩:=rK h
 refine .agg _ _ (fun j=>vs.getD j undef) (by simp[h1]) (fun a ha=>?_) (fun j hj=>?_) (fun j a ha=>?_)
 ·obtain⟨c,_,rfl⟩:=List.mem_map.1 ha;exact c.mD
 ·simp at hj;simp[List.getElem?_eq_getElem (show j<vs.length by omega)]
 ·simp only[List.getElem?_map,Option.map_eq_some_iff]at ha
  obtain⟨c,hc,rfl⟩:=ha
  rw[List.getD_eq_getElem?_getD,h2 j c hc];exact wo c
theorem dn {env:Env} {a:Act} {x:Operand} {y:O} (E:cC P w D ι env a) (h:cO P x=some y):dj P w D ι (da env y) (a.eval x):=by
 unfold cO at h
 split at h
 ·simp at h;subst h;exact E _
 ·simp only[Option.map_eq_some_iff]at h
  obtain⟨cs,du,rfl⟩:=h
  have:=TQ (P:=P) (w:=w) (D:=D) (ι:=ι) du
  simpa[Act.eval,da]using this
 ·simp only[Option.map_eq_some_iff]at h
  obtain⟨c,hc,rfl⟩:=h
  simp only[Act.eval,da]
  rw[zy hc];exact wo c
 ·simp at h
 ·split at h
  ·rename_i hc
   simp at h;subst h
   simp only[Act.eval,da]
   exact .fn _ _ _ (fun _=>undef) hc rfl (fun j hj=>by simp at hj) (fun j a h=>by simp at h)
  ·simp at h
def om (P:Program) (a:Act) (o:Oper) (w:World) (D:Nat->Prop) (ι:Names) (v:AV):Prop:=∃u,(execOp a.eval o).run P w=.ok (.value u) w/\dj P w D ι v u
section
variable {g:Rows} {hs:Nat} {env:Env} {a:Act} {o:Oper} {id:Id} {v:AV}
theorem Mz {x:Operand} {y:O} (E:cC P w D ι env a) (ho:o.op=.move x∨o.op=.assign x) (hx:cO P x=some y):om P a o w D ι (da env y):=by
 refine⟨a.eval x,?_,dn E hx⟩
 rcases ho with h|h<;>simp[execOp,h,go_sem]
theorem OE {c x y:Operand} {c' x' y':O} (E:cC P w D ι env a) (ho:o.op=.pick c x y) (hc:cO P c=some c') (hx:cO P x=some x') (hy:cO P y=some y') (hv:cX (da env c') (da env x') (da env y')=some v):om P a o w D ι v:=by
 unfold cX at hv
 split at hv
 ·rename_i b hb
  simp at hv;subst hv
  have h1:=fa (hb▸dn E hc)
  refine⟨if b then a.eval x else a.eval y,by simp only[execOp,ho,h1,asBool];rfl,?_⟩
  cases b
  ·exact dn E hy
  ·exact dn E hx
 ·simp at hv
theorem QX {op:BinOp} {x y:Operand} {x' y':O} {t yt:TypeId} (E:cC P w D ι env a) (ho:o.op=.binOp op t x y yt) (he:op≠.eql) (hn:op≠.neq) (hx:cO P x=some x') (hy:cO P y=some y') (hv:dM op (da env x') (da env y')=some v):om P a o w D ι v:=by
 unfold dM at hv
 split at hv
 ·rename_i k n k' m hb sI
  split at hv
  ·rename_i hk
   subst hk
   have h1:=dz (hb▸dn E hx)
   have h2:=dz (sI▸dn E hy)
   have key:∀u,(binOp op t (.int k n) (.int k m)).run P w=.ok u w->(execOp a.eval o).run P w=.ok (.value u) w:=fun u hu=>by
    have e0:eqGuard op t x y (.int k n) (.int k m)=pure ():=by unfold eqGuard;cases op<;>rfl
    simp only[execOp,ho,h1,h2,e0]
    simp[go_sem,hu]
   cases op<;>simp only[dq]at hv<;>(try(simp at hv;done))<;>(try split at hv)<;>(try(simp at hv;done))<;>simp only[Option.some.injEq]at hv<;>subst hv<;>
    (refine⟨_,key _ (by simp only[binOp,ne_eq,not_true_eq_false,if_false,Op.intArith,Op.intDiv,Op.intBits,Op.intCmp, *];rfl),?_⟩)<;>
    first
     |exact .eU _ _ (.int _ _)
     |exact .eU _ _ (.bool _)
  ·simp at hv
 ·simp at hv
theorem On {op:BinOp} {x y:Operand} {x' y':O} {t yt:TypeId} (E:cC P w D ι env a) (ho:o.op=.binOp op t x y yt) (he:op≠.eql) (hn:op≠.neq) (hx:cO P x=some x') (hy:cO P y=some y') (hv:cY op (da env x') (da env y')=some v):om P a o w D ι v:=by
 unfold cY at hv
 split at hv
 ·rename_i n m hb sI
  have h1:=fC (hb▸dn E hx)
  have h2:=fC (sI▸dn E hy)
  cases op<;>simp only[dY]at hv<;>(try(simp at hv;done))
  case add=>
   split at hv
   ·rename_i hl
    simp only[Option.some.injEq]at hv;subst hv
    exact⟨_,by simp only[execOp,ho,h1,h2];simp[eqGuard,binOp,go_sem];exact hl,.eU _ _ (.str _)⟩
   ·simp at hv
  all_goals
   simp only[Option.some.injEq]at hv;subst hv
   exact⟨_,by simp only[execOp,ho,h1,h2];simp[eqGuard,binOp,Op.stringOp,go_sem],.eU _ _ (.bool _)⟩
 ·simp at hv
theorem E9 (n m:ByteArray):(n.toList==m.toList)=decide (n=m):=by
 rw[ByteArray.toList_eq,ByteArray.toList_eq]
 by_cases h:n=m
 ·subst h;simp
 ·have:n.data.toList≠m.data.toList:=fun he=>h (ByteArray.ext (Array.ext' he))
  rw[decide_eq_false h];exact beq_eq_false_iff_ne.2 this
theorem pk {t:TypeId} (h:fo P t=some .tB):P.underlying t=some .bool:=by unfold fo at h;split at h<;>simp_all
theorem po {t:TypeId} (h:fo P t=some .tI):∃k,P.underlying t=some (.int k):=by unfold fo at h;split at h<;>simp_all
theorem pq {t:TypeId} (h:fo P t=some .tS):P.underlying t=some .string:=by unfold fo at h;split at h<;>simp_all
theorem rS {d:Nat} {t:TypeId} {s:TS} {x y:AV} {u u':Value} {b:Bool} (hx:dj P w D ι x u) (hy:dj P w D ι y u') (hv:fA s x y=some b) (ht:fo P t=some s):(Op.equalIn (d+1) t u u').run P w=.ok b w:=by
 unfold fA at hv
 split at hv
 ·rename_i k n k' m
  split at hv
  ·rename_i hk
   subst hk
   simp at hv;subst hv
   obtain⟨q,hq⟩:=po ht
   rw[dz hx,dz hy,run_equalIn_int _ _ _ _ _ _ _ hq];rfl
  ·simp at hv
 ·simp at hv;subst hv
  rw[fa hx,fa hy,run_equalIn_bool' _ _ _ _ _ (pk ht)]
 ·simp at hv;subst hv
  rw[fC hx,fC hy,run_equalIn_string _ _ _ _ _ (pq ht),E9]
 ·simp at hv
def eW (P:Program) (w:World) (D:Nat->Prop) (ι:Names) (xs:List AV) (vs:Array Value):Prop:=vs.size=xs.length/\∀(j:Nat) (a:AV),xs[j]? =some a->∃u,vs[j]? =some u/\dj P w D ι a u
theorem eW.part {xs:List AV} {vs:Array Value} (h:eW P w D ι xs vs) (off n:Nat) (hn:off+n<=xs.length):eW P w D ι ((xs.drop off).take n) (vs.extract off (off+n)):=by
 refine⟨by simp[h.1];omega,fun j a ha=>?_⟩
 rw[List.getElem?_take]at ha
 split at ha
 ·rename_i hj
  rw[List.getElem?_drop]at ha
  obtain⟨u,h1,h2⟩:=h.2 _ _ ha
  refine⟨u,?_,h2⟩
  rw[Array.getElem?_extract]
  rw[if_pos (by rw[h.1];omega),h1]
 ·simp at ha
theorem q9:∀{ts:List TS} {xs ys:List AV} {b:Bool},eS ts xs ys=some b->xs.length=ts.length/\ys.length=ts.length
 |[],[],[],_,_=>⟨rfl,rfl⟩
 |t::ts,x::xs,y::ys,b,h=>by
  unfold eS at h
  split at h
  ·rename_i c d h1 h2
   have:=q9 h2
   simp[this.1,this.2]
  ·simp at h
 |[],[],_::_,_,h=>by simp[eS]at h
 |[],_::_,_,_,h=>by simp[eS]at h
 |_::_,[],_,_,h=>by simp[eS]at h
 |_::_,_::_,[],_,h=>by simp[eS]at h
theorem Ey:∀{ts us:List TS} {xs ys:List AV} {b:Bool},eS (ts++us) xs ys=some b->∃c d,eS ts (xs.take ts.length) (ys.take ts.length)=some c/\eS us (xs.drop ts.length) (ys.drop ts.length)=some d/\b=(c&&d)
 |[],us,xs,ys,b,h=>⟨true,b,by simp[eS],by simpa using h,by simp⟩
 |t::ts,us,x::xs,y::ys,b,h=>by
  simp only[List.cons_append]at h
  unfold eS at h
  split at h
  ·rename_i c d h1 h2
   obtain⟨c',d',h3,h4,rfl⟩:=Ey h2
   simp at h;subst h
   exact⟨c&&c',d',by simp[eS,h1,h3],by simpa using h4,by simp[Bool.and_assoc]⟩
  ·simp at h
 |t::ts,us,[],ys,b,h=>by simp[eS]at h
 |t::ts,us,x::xs,[],b,h=>by simp[eS]at h
theorem mb {t:TypeId} {vs:Array Value} {off:Nat} {u:Value} (ha:nH P t=some false) (hu:vs[off]? =some u):(Go.part t vs off).run P w=.ok u w:=by
 unfold nH at ha
 have hi:(isAgg t).run P w=.ok false w:=by
  split at ha<;>simp at ha
  rename_i d h1 h2 hd
  simp only[isAgg,Sem.run_bind,run_underlying hd,Result.andThen_ok]
  cases d<;>simp_all
 simp[Go.part,hi,hu]
theorem s4 {t:TypeId} {b:Bool} (ha:nH P t=some b):(isAgg t).run P w=.ok b w:=by
 unfold nH at ha
 split at ha<;>simp at ha<;>subst ha<;>rename_i hd<;>simp only[isAgg,Sem.run_bind,run_underlying hd,Result.andThen_ok]<;>(try simp)
theorem run_sizeOf {t:TypeId} {n:Nat} (h:ep P t=some n):(sizeOf t).run P w=.ok n w:=by
 unfold ep at h
 simp only[Option.map_eq_some_iff]at h
 obtain⟨i,hi,rfl⟩:=h
 simp[sizeOf,typeInfo,hi]
theorem pj {t:TypeId} {vs:Array Value} {off n:Nat} (ha:nH P t=some true) (hn:ep P t=some n):(Go.part t vs off).run P w=.ok (.agg (vs.extract off (off+n))) w:=by
 simp[Go.part,s4 ha,run_sizeOf hn]
theorem HU (d off:Nat):eK P (d+1) off []=some []:=rfl
theorem x7 (d off:Nat) (f:Field) (r:List Field):eK P (d+1) off (f::r)=(if f.offset=off/\f.name≠ "_" then
   match fo P f.type with
   |some t=>if nH P f.type=some false then(eK P (d+1) (off+1) r).map (t::·)else none
   |none=>match P.underlying f.type with
    |some (.struct fs)=>if !P.stoodInHeld f.type then match eK P d 0 fs.toList with
     |some ts=>if ep P f.type=some ts.length/\ts≠[]then(eK P (d+1) (off+ts.length) r).map (ts++·)else none
     |none=>none else none
    |_=>none
  else none):=rfl
theorem rR:∀(d:Nat) (fs:List Field) (off:Nat) (ts:List TS),eK P d off fs=some ts->∀(N:Nat) (_:d<=N) (xs ys:List AV) (vs us:Array Value) (b:Bool),eW P w D ι xs vs->eW P w D ι ys us->
  eS ts ((xs.drop off).take ts.length) ((ys.drop off).take ts.length)=some b->(Op.eqFields (N+1) vs us fs).run P w=.ok b w:=by
 intro d
 induction d with
 |zero=>
  intro fs off ts hf N _ xs ys vs us b _ _ he
  cases fs with
  |nil=>simp[eK]at hf;subst hf;simp[eS]at he;subst he;simp[Op.eqFields]
  |cons f r=>simp[eK]at hf
 |succ d ihd=>
  intro fs
  induction fs with
  |nil=>
   intro off ts hf N _ xs ys vs us b _ _ he
   rw[HU]at hf;simp at hf;subst hf;simp[eS]at he;subst he;simp[Op.eqFields]
  |cons f r ih=>
   intro off ts hf N hN xs ys vs us b hx hy he
   rw[x7]at hf
   split at hf
   ·rename_i hcond
    obtain⟨ho,gM⟩:=hcond
    split at hf
    ·rename_i s hs
     split at hf
     ·rename_i uv
      simp only[Option.map_eq_some_iff]at hf
      obtain⟨Mx,hr,rfl⟩:=hf
      obtain⟨l1,l2⟩:=q9 he
      simp only[List.length_cons,List.length_take,List.length_drop]at l1 l2
      have G9:off<xs.length:=by omega
      have hyo:off<ys.length:=by omega
      rw[List.drop_eq_getElem_cons G9,List.drop_eq_getElem_cons hyo,List.length_cons,List.take_succ_cons,List.take_succ_cons]at he
      unfold eS at he
      split at he
      ·rename_i c d' h1 h2
       simp at he;subst he
       obtain⟨u,hu,ru⟩:=hx.2 off _ (List.getElem?_eq_getElem G9)
       obtain⟨u',EO,ru'⟩:=hy.2 off _ (List.getElem?_eq_getElem hyo)
       have:=ih (off+1) Mx hr N hN xs ys vs us d' hx hy h2
       simp only[Op.eqFields,if_pos gM,Sem.run_bind,ho,mb uv hu,mb uv EO,Result.andThen_ok,rS ru ru' h1 hs,Sem.run_ite]
       cases c<;>simp[this]
      ·simp at he
     ·simp at hf
    ·split at hf
     ·rename_i fs' rm
      split at hf
      ·rename_i eC
       split at hf
       ·rename_i ts1 hts1
        split at hf
        ·rename_i fe
         simp only[Option.map_eq_some_iff]at hf
         obtain⟨Mx,hr,rfl⟩:=hf
         obtain⟨c,d',h1,h2,rfl⟩:=Ey he
         obtain⟨l1,l2⟩:=q9 he
         simp only[List.length_append,List.length_take,List.length_drop]at l1 l2
         have uv:nH P f.type=some true:=by simp[nH,rm]
         have jA:0<ts1.length:=List.length_pos_iff.2 fe.2
         have Iy:off+ts1.length<=xs.length:=by omega
         have Qw:off+ts1.length<=ys.length:=by omega
         rw[List.drop_take,List.drop_drop,List.drop_take,List.drop_drop]at h2
         rw[List.take_take,List.take_take]at h1
         simp only[List.length_append]at h1 h2
         rw[Nat.min_eq_left (by omega)]at h1
         have e2:ts1.length+Mx.length-ts1.length=Mx.length:=by omega
         rw[e2]at h2
         have:=ih (off+ts1.length) Mx hr N hN xs ys vs us d' hx hy h2
         have fB:=ihd fs'.toList 0 ts1 hts1 (N-1) (by omega) _ _ _ _ c (hx.part off ts1.length Iy) (hy.part off ts1.length Qw) (by simpa[List.take_take]using h1)
         have hN':N-1+1=N:=by omega
         rw[hN']at fB
         have Ma:P.fieldsOf f.type=fs':=by simp[Program.fieldsOf,rm]
         simp only[Op.eqFields,if_pos gM,Sem.run_bind,ho,pj uv fe.1,Result.andThen_ok,Sem.run_ite]
         rw[run_equalIn_struct w N f.type _ _ (by rw[Ma];exact rm) (by simpa using eC),Ma,fB]
         cases c<;>simp[this]
        ·simp at hf
       ·simp at hf
      ·simp at hf
     ·simp at hf
   ·simp at hf
theorem Q1 {x y:Operand} {x' y':O} {t yt:TypeId} {neg:Bool} {s:TS} {b:Bool} (E:cC P w D ι env a) (ho:o.op=.binOp (if neg then .neq else .eql) t x y yt) (hs:fo P t=some s) (hx:cO P x=some x') (hy:cO P y=some y')
  (hv:fA s (da env x') (da env y')=some b):om P a o w D ι (.bool (dk neg b)):=by
 have rx:=dn E hx
 have ry:=dn E hy
 refine⟨.bool (dk neg b),?_,.eU _ _ (.bool _)⟩
 have e0:(eqGuard (if neg then .neq else .eql) t x y (a.eval x) (a.eval y)).run P w=.ok () w:=by
  unfold fA at hv
  split at hv
  ·rename_i k n k' m h1 h2
   rw[h1]at rx;rw[h2]at ry
   rw[dz rx,dz ry];unfold eqGuard;cases neg<;>simp
  ·rename_i n m h1 h2
   rw[h1]at rx;rw[h2]at ry
   rw[fa rx,fa ry];unfold eqGuard;cases neg<;>simp
  ·rename_i n m h1 h2
   rw[h1]at rx;rw[h2]at ry
   rw[fC rx,fC ry];unfold eqGuard;cases neg<;>simp
  ·simp at hv
 have e1:(binOp (if neg then .neq else .eql) t (a.eval x) (a.eval y)).run P w=.ok (.bool (dk neg b)) w:=by
  have q:=rS (d:=9999) rx ry hv hs
  unfold fA at hv
  split at hv
  ·rename_i k n k' m h1 h2
   split at hv
   ·rename_i hk
    subst hk
    simp at hv;subst hv
    rw[h1]at rx;rw[h2]at ry
    rw[dz rx,dz ry]
    cases neg<;>simp only[binOp,ne_eq,not_true_eq_false,if_false,Op.intCmp,dk,if_true,Bool.false_eq_true]<;>simp[bne]<;>rfl
   ·simp at hv
  ·rename_i n m h1 h2
   rw[h1]at rx;rw[h2]at ry
   rw[fa rx,fa ry]at q ⊢
   cases neg<;>simp only[binOp,dk,if_true,Bool.false_eq_true,if_false,Sem.run_bind]<;>simp[Op.equal,Op.maxDepth,q]
  ·rename_i n m h1 h2
   simp at hv;subst hv
   rw[h1]at rx;rw[h2]at ry
   rw[fC rx,fC ry]
   cases neg<;>simp[binOp,Op.stringOp,dk,E9]
  ·simp at hv
 simp only[execOp,ho,Sem.run_bind,e0,e1,Result.andThen_ok,Sem.run_pure]
theorem QZ {x y:Operand} {x' y':O} {t yt:TypeId} {neg:Bool} {ts:List TS} {fs:Array Field} {xs ys:List AV} {b:Bool} (E:cC P w D ι env a) (ho:o.op=.binOp (if neg then .neq else .eql) t x y yt) (rm:P.underlying t=some (.struct fs)) (eC:P.stoodInHeld t=false) (KG:P.eqGuardType P.depth t=false)
  (xz:eK P 4 0 fs.toList=some ts) (hx:cO P x=some x') (hy:cO P y=some y') (h1:da env x'=.agg xs) (h2:da env y'=.agg ys)
  (hv:eS ts xs ys=some b):om P a o w D ι (.bool (dk neg b)):=by
 obtain⟨vs,f,rx,n1,_,f1,r1⟩:=iP (h1▸dn E hx)
 obtain⟨us,f',ry,n2,_,f2,r2⟩:=iP (h2▸dn E hy)
 refine⟨.bool (dk neg b),?_,.eU _ _ (.bool _)⟩
 obtain⟨l1,l2⟩:=q9 hv
 have L:∀(xs:List AV) (vs:Array Value) (f:Nat->Value),vs.size=xs.length->(∀j,j<xs.length->vs[j]? =some (f j))->(∀j a,xs[j]? =some a->dj P w D ι a (f j))->eW P w D ι xs vs:=fun xs vs f h1 h2 h3=>
  ⟨h1,fun j a ha=>⟨f j,h2 j (List.getElem?_eq_some_iff.1 ha).1,h3 j a ha⟩⟩
 have q:=rR (w:=w) 4 fs.toList 0 ts xz 9998 (by omega) xs ys vs us b (L _ _ _ n1 f1 r1) (L _ _ _ n2 f2 r2) (by simpa[List.take_of_length_le,l1,l2]using hv)
 have Ma:P.fieldsOf t=fs:=by simp[Program.fieldsOf,rm]
 have q2:(Op.equal t (.agg vs) (.agg us)).run P w=.ok b w:=by
  unfold Op.equal
  rw[show Op.maxDepth=9999+1 from rfl,run_equalIn_struct w 9999 t _ _ (by rw[Ma];exact rm) eC,Ma,q]
 simp only[execOp,ho,Sem.run_bind,rx,ry,run_eqGuard_agg w _ _ _ _ _ _ KG,Result.andThen_ok]
 cases neg<;>simp[binOp,q2,dk]
theorem Ot {x:Operand} {x':O} {t yt e:TypeId} {neg:Bool} {b:Bool} (E:cC P w D ι env a) (ho:o.op=.binOp (if neg then .neq else .eql) t x (.const (.slice none 0 0)) yt) (ht:P.underlying t=some (.slice e)) (hx:cO P x=some x')
  (hv:cW (da env x')=some b):om P a o w D ι (.bool (dk neg b)):=by
 have hr:=dn E hx
 have rx:∃A n c,a.eval x=.slice A n c/\b=A.isNone:=by
  unfold cW at hv
  split at hv<;>simp at hv<;>subst hv<;>rename_i hh
  ·rw[hh]at hr;exact⟨_,_,_,jZ hr,rfl⟩
  ·rw[hh]at hr;obtain⟨o,cap,B,h,_⟩:=iu hr
   exact⟨_,_,_,h,rfl⟩
  ·rw[hh]at hr
   obtain⟨A,c,h',_,_,h⟩:=wu hr
   rcases h with h|⟨b,o,sz,vs,rfl,_⟩
   ·simp at h
   ·exact⟨_,_,_,h',rfl⟩
 refine⟨.bool (dk neg b),?_,.eU _ _ (.bool _)⟩
 obtain⟨A,n,c,h,rfl⟩:=rx
 have hq:(Op.equal t (.slice A n c) (.slice none 0 0)).run P w=.ok A.isNone w:=by
  unfold Op.equal
  rw[show Op.maxDepth=9999+1 from rfl,Op.equalIn]
  simp only[Sem.run_bind,run_underlying ht,Result.andThen_ok]
  cases A<;>rfl
 have hc:a.eval (.const (.slice none 0 0))=.slice none 0 0:=rfl
 simp only[execOp,ho,h,hc]
 cases neg<;>simp only[Bool.false_eq_true,if_false,if_true,Bool.not_true,Bool.not_false,eqGuard,binOp,dk,Sem.run_bind,hq,Result.andThen_ok,Sem.run_pure]
theorem Q0 {x:Operand} {x':O} {t yt e:TypeId} {neg:Bool} {b:Bool} (E:cC P w D ι env a) (ho:o.op=.binOp (if neg then .neq else .eql) t x (.const (.pointer none)) yt) (ht:P.underlying t=some (.pointer e)) (hx:cO P x=some x')
  (hv:JI (da env x')=some b):om P a o w D ι (.bool (dk neg b)):=by
 have hr:=dn E hx
 have rx:∃A,a.eval x=.pointer A/\b=A.isNone:=by
  unfold JI at hv
  split at hv<;>simp at hv<;>subst hv<;>rename_i hh
  ·rw[hh]at hr;exact⟨_,Jb hr,rfl⟩
  ·rw[hh]at hr;obtain⟨B,h,_⟩:=jr hr
   exact⟨_,h,rfl⟩
  ·rw[hh]at hr;obtain⟨_,_,_,h,_⟩:=kR hr
   exact⟨_,h,rfl⟩
 refine⟨.bool (dk neg b),?_,.eU _ _ (.bool _)⟩
 obtain⟨A,h,rfl⟩:=rx
 have hq:(Op.equal t (.pointer A) (.pointer none)).run P w=.ok A.isNone w:=by
  unfold Op.equal
  rw[show Op.maxDepth=9999+1 from rfl,Op.equalIn]
  simp only[Sem.run_bind,run_underlying ht,Result.andThen_ok]
  cases A<;>rfl
 have hc:a.eval (.const (.pointer none))=.pointer none:=rfl
 simp only[execOp,ho,h,hc]
 cases neg<;>simp only[Bool.false_eq_true,if_false,if_true,Bool.not_true,Bool.not_false,eqGuard,binOp,dk,Sem.run_bind,hq,Result.andThen_ok,Sem.run_pure]
theorem Oq {x:Operand} {x':O} {t yt:TypeId} {p r:Array TypeId} {va:Bool} {neg:Bool} {b:Bool} (E:cC P w D ι env a) (ho:o.op=.binOp (if neg then .neq else .eql) t x (.const .nilFunc) yt) (ht:P.underlying t=some (.func p r va)) (hx:cO P x=some x')
  (hv:cV (da env x')=some b):om P a o w D ι (.bool (dk neg b)):=by
 have hr:=dn E hx
 have rx:a.eval x=.nilFunc/\b=true∨∃f c,a.eval x=.func f #[] c/\b=false:=by
  unfold cV at hv
  split at hv<;>simp at hv<;>subst hv<;>rename_i hh
  ·rw[hh]at hr;exact .inl ⟨wq hr,rfl⟩
  ·rw[hh]at hr;obtain⟨vs,g,h,_⟩:=DL hr
   exact .inr ⟨_,_,h,rfl⟩
 refine⟨.bool (dk neg b),?_,.eU _ _ (.bool _)⟩
 have hc:a.eval (.const .nilFunc)=.nilFunc:=rfl
 rcases rx with⟨h,rfl⟩|⟨f,c,h,rfl⟩
 ·have hq:(Op.equal t .nilFunc .nilFunc).run P w=.ok true w:=by
   unfold Op.equal
   rw[show Op.maxDepth=9999+1 from rfl,Op.equalIn]
   simp only[Sem.run_bind,run_underlying ht,Result.andThen_ok]
   rfl
  simp only[execOp,ho,h,hc]
  cases neg<;>simp only[Bool.false_eq_true,if_false,if_true,Bool.not_true,Bool.not_false,eqGuard,binOp,dk,Sem.run_bind,hq,Result.andThen_ok,Sem.run_pure]
 ·have hq:(Op.equal t (.func f #[] c) .nilFunc).run P w=.ok false w:=by
   unfold Op.equal
   rw[show Op.maxDepth=9999+1 from rfl,Op.equalIn]
   simp only[Sem.run_bind,run_underlying ht,Result.andThen_ok]
   rfl
  simp only[execOp,ho,h,hc]
  cases neg<;>simp only[Bool.false_eq_true,if_false,if_true,Bool.not_true,Bool.not_false,eqGuard,binOp,dk,Sem.run_bind,hq,Result.andThen_ok,Sem.run_pure]
theorem Q4 {x:Operand} {x':O} {t:TypeId} (E:cC P w D ι env a) (ho:o.op=.unOp .not t x) (hx:cO P x=some x') (hv:dS (da env x')=some v):om P a o w D ι v:=by
 have hr:=dn E hx
 unfold dS at hv
 split at hv
 ·rename_i b hb
  simp at hv;subst hv
  rw[hb]at hr
  exact⟨_,by simp only[execOp,ho,fa hr];rfl,.eU _ _ (.bool _)⟩
 ·simp at hv
theorem Q3 {x:Operand} {x':O} {t:TypeId} (E:cC P w D ι env a) (ho:o.op=.unOp .neg t x) (hx:cO P x=some x') (hv:dQ (da env x')=some v):om P a o w D ι v:=by
 have hr:=dn E hx
 unfold dQ at hv
 split at hv
 ·rename_i k n hb
  simp at hv;subst hv
  rw[hb]at hr
  refine⟨_,by simp only[execOp,ho,dz hr];rfl,?_⟩
  rw[Int.zero_sub];exact .eU _ _ (.int _ _)
 ·simp at hv
theorem Oo {x:Operand} {x':O} {s d:TypeId} {k q:IntKind} (E:cC P w D ι env a) (ho:o.op=.convert s d x) (hs:P.underlying s=some (.int q)) (hd:P.underlying d=some (.int k)) (hx:cO P x=some x') (hv:cK k (da env x')=some v):om P a o w D ι v:=by
 have hr:=dn E hx
 unfold cK at hv
 split at hv
 ·rename_i k' n hb
  simp at hv;subst hv
  rw[hb]at hr
  refine⟨.int k (k.wrap n),?_,.eU _ _ (.int _ _)⟩
  simp only[execOp,ho,dz hr,convert,Sem.run_bind,run_underlying hs,run_underlying hd,Result.andThen_ok,Conv.intToInt,Sem.run_pure]
 ·simp at hv
theorem LO {x:Operand} {x':O} {s:TypeId} {i:Nat} {fs:Array Field} {f:Field} {m:Nat} (E:cC P w D ι env a) (ho:o.op=.fieldAddr s x i) (hs:P.underlying s=some (.struct fs)) (hf:fs[i]? =some f) (hm:ep P f.type=some (m+1)) (hx:cO P x=some x')
  (hv:Ed f.offset (da env x')=some v):om P a o w D ι v:=by
 have hr:=dn E hx
 have go:∀b oo,a.eval x=.pointer (some ⟨b,oo,none⟩)->(execOp a.eval o).run P w=.ok (.value (.pointer (some ⟨b,oo+f.offset,none⟩))) w:=fun b oo h=>by
  simp only[execOp,ho,h,Instr.fieldAt,Sem.run_bind,run_underlying hs,Result.andThen_ok,hf,Instr.sureAddr,Sem.run_pure,fieldPlace,run_sizeOf hm,Nat.add_eq_zero_iff,Nat.one_ne_zero,and_false,if_false,Addr.add]
  split
  ·rename_i h0;simp[h0]
  ·rfl
 unfold Ed at hv
 split at hv
 ·rename_i kF i' oo hb
  simp at hv;subst hv
  rw[hb]at hr
  obtain⟨B,h,hB,hk⟩:=jr hr
  refine⟨_,go _ _ h,?_⟩
  rw[Nat.add_assoc]
  exact .ptr _ _ _ _ hB hk
 ·rename_i cs hb
  simp at hv;subst hv
  rw[hb]at hr
  obtain⟨b,oo,vs,h,h1,h2,h3,h4⟩:=kR hr
  refine⟨_,go _ _ h,.eU _ _ (.di _ _ _ (fun j=>vs (f.offset+j)) h1 (fun a ha=>h2 a (List.mem_of_mem_drop ha)) (fun j hj=>?_) (fun j a ha=>h4 _ _ (by simpa using ha)))⟩
  rw[Nat.add_assoc]
  exact h3 _ (by simp at hj;omega)
 ·simp at hv
theorem LP {x:Operand} {x':O} {s:TypeId} {i n:Nat} {ag:Bool} {fs:Array Field} {f:Field} (E:cC P w D ι env a) (ho:o.op=.field s x i) (hs:P.underlying s=some (.struct fs)) (hf:fs[i]? =some f) (uv:nH P f.type=some ag) (hm:ep P f.type=some n) (hx:cO P x=some x')
  (hv:bE ag f.offset n (da env x')=some v):om P a o w D ι v:=by
 have hr:=dn E hx
 unfold bE at hv
 split at hv
 ·rename_i cs hb
  split at hv
  ·rename_i hl
   rw[hb]at hr
   obtain⟨vs,g,h,n1,fl,f1,r1⟩:=iP hr
   unfold part at hv
   cases ag with
   |true=>
    simp only[if_true]at hv
    split at hv
    ·simp at hv;subst hv
     refine⟨.agg (vs.extract f.offset (f.offset+n)),?_,.agg _ _ (fun j=>g (f.offset+j)) (by simp[n1];omega) (fun a ha=>fl a (List.mem_of_mem_drop (List.mem_of_mem_take ha))) (fun j hj=>?_) (fun j a ha=>?_)⟩
     ·simp only[execOp,ho,h,Instr.field,Sem.run_bind,run_underlying hs,Result.andThen_ok,hf,asAgg,Sem.run_pure,pj uv hm]
     ·simp at hj
      rw[Array.getElem?_extract,if_pos (by omega)];exact f1 _ (by omega)
     ·rw[List.getElem?_take]at ha
      split at ha
      ·exact r1 _ _ (by simpa using ha)
      ·simp at ha
    ·simp at hv
   |false=>
    simp only[Bool.false_eq_true,if_false]at hv
    have nL:cs[f.offset]? =some v:=by simpa[List.head?_drop]using hv
    have eo:=(List.getElem?_eq_some_iff.1 nL).1
    exact⟨g f.offset,by simp only[execOp,ho,h,Instr.field,Sem.run_bind,run_underlying hs,Result.andThen_ok,hf,asAgg,Sem.run_pure,mb uv (f1 _ eo)],r1 _ _ nL⟩
  ·simp at hv
 ·simp at hv
theorem Q5 {left:Bool} {x y:Operand} {x' y':O} {t yt:TypeId} (E:cC P w D ι env a) (ho:o.op=.binOp (if left then .shl else .shr) t x y yt) (hx:cO P x=some x') (hy:cO P y=some y') (hv:gy left (da env x') (da env y')=some v):om P a o w D ι v:=by
 unfold gy at hv
 split at hv
 ·rename_i k n k' m hb sI
  split at hv
  ·simp at hv
  ·rename_i hm
   simp at hv;subst hv
   have h1:=dz (hb▸dn E hx)
   have h2:=dz (sI▸dn E hy)
   refine⟨_,?_,.eU _ _ (.int _ _)⟩
   simp only[execOp,ho,h1,h2]
   cases left<;>simp only[Bool.false_eq_true,if_false,if_true,eqGuard,Bool.not_true,Bool.not_false,binOp,Op.shift,hm,Sem.run_bind,Sem.run_pure,Result.andThen_ok]<;>rfl
 ·simp at hv
end
end Go.Proofs.YtgoelphibofcmaaGreat.V

namespace Go.Proofs.YtgoelphibofcmaaGreat.V
open Go.RowKit
variable {P:Program} {w w':World} {D D':Nat->Prop} {ι ι':Names}
theorem j7 (b o j:Nat):(⟨b,o,none⟩:Addr).add j=⟨b,o+j,none⟩:=by unfold Addr.add;split<;>simp_all
section
variable {g:Rows} {hs:Nat} {env:Env} {a:Act} {o:Oper} {id:Id} {v:AV}
theorem km {t:TypeId} {ag:Bool} {n b oo:Nat} {cs:List AV} {v:AV} {f:Nat->Value} (uv:nH P t=some ag) (hn:ep P t=some n) (hp:part ag n cs=some v) (fl:∀a∈cs,a.cell=true)
  (hc:∀j,j<cs.length->w.cell? ⟨b,oo+j,none⟩=some (f j)) (hr:∀j a,cs[j]? =some a->dj P w D ι a (f j)):∃u,(loadVar t ⟨b,oo,none⟩).run P w=.ok u w/\dj P w D ι v u:=by
 unfold part at hp
 cases ag with
 |true=>
  simp only[if_true]at hp
  split at hp
  ·rename_i hl
   simp at hp;subst hp
   refine⟨.agg ((List.range n).map f).toArray,?_,.agg _ _ f (by simp;omega) (fun a ha=>fl a (List.mem_of_mem_take ha)) (fun j hj=>?_) (fun j a ha=>?_)⟩
   ·simp only[loadVar,Sem.run_bind,s4 uv,Result.andThen_ok,if_true,run_sizeOf hn,Sem.run_pure]
    rw[run_loadCells w _ n f (fun j hj=>by rw[j7];exact hc j (by omega))]
    rfl
   ·simp at hj
    have:j<n:=by omega
    simp[this]
   ·rw[List.getElem?_take]at ha
    split at ha
    ·exact hr _ _ ha
    ·simp at ha
  ·simp at hp
 |false=>
  simp only[Bool.false_eq_true,if_false]at hp
  cases cs with
  |nil=>simp at hp
  |cons c r=>
   simp at hp;subst hp
   refine⟨f 0,?_,hr 0 _ rfl⟩
   simp only[loadVar,Sem.run_bind,s4 uv,Result.andThen_ok,Bool.false_eq_true,if_false]
   have:=hc 0 (by simp)
   simp at this
   rw[run_load,this]
theorem Jh {S:gi P hs D ι g w} {i:Nat} {cs:List AV} (h:rowAt g id i=some cs) (hk:∀B,ι id=some B->B.k=none):∃B r,g id=some r/\ι id=some B/\kr P w D ι B r/\r.rows[i]? =some cs/\(∀a∈cs,a.cell=true)/\∃f:Nat->Value,∀j,j<cs.length->w.cell? ⟨B.b,i*B.sz+j,none⟩=some (f j)/\∀a,cs[j]? =some a->dj P w D ι a (f j):=by
 unfold rowAt at h
 simp only[Option.bind_eq_some_iff]at h
 obtain⟨r,hr,hi⟩:=h
 obtain⟨B,hB,R,_,_⟩:=S.row id r hr
 replace R:=R.row (hk B hB)
 refine⟨B,r,hr,hB,R,hi,R.flat cs (List.mem_of_getElem? hi),fun j=>(w.cell? ⟨B.b,i*B.sz+j,none⟩).getD undef,fun j hj=>?_⟩
 obtain⟨u,hu,xx⟩:=R.at_ i j cs _ hi (List.getElem?_eq_getElem hj)
 rw[R.sz,hu]
 refine⟨by simp only[hu,Option.getD_some],fun a ha=>?_⟩
 rw[List.getElem?_eq_getElem hj]at ha
 injection ha with ha
 subst ha
 simpa only[hu,Option.getD_some]using xx
theorem Oz {x:Operand} {x':O} {t:TypeId} {ag:Bool} {n:Nat} (S:gi P hs D ι g w) (E:cC P w D ι env a) (ho:o.op=.load t x) (uv:nH P t=some ag) (hn:ep P t=some n) (hx:cO P x=some x') (hv:ld g ag n (da env x')=some v):om P a o w D ι v:=by
 have hr:=dn E hx
 have go:∀b oo u,a.eval x=.pointer (some ⟨b,oo,none⟩)->(loadVar t ⟨b,oo,none⟩).run P w=.ok u w->(execOp a.eval o).run P w=.ok (.value u) w:=fun b oo u h h2=>by
  simp only[execOp,ho,h,Instr.loadAt,Instr.sureAddr,Sem.run_bind,Sem.run_pure,Result.andThen_ok,h2]
 unfold ld at hv
 split at hv
 ·rename_i kF i' oo hb
  rw[hb]at hr
  obtain⟨B,h,hB,hk⟩:=jr hr
  simp only[Option.bind_eq_some_iff]at hv
  obtain⟨cs,du,hp⟩:=hv
  obtain⟨B',r,G6,dJ,R,hi,fl,f,hf⟩:=Jh (S:=S) du (fun B2 h2=>by rw[hB]at h2;injection h2 with h2;subst h2;exact hk)
  rw[hB]at dJ;injection dJ with dJ;subst dJ
  obtain⟨u,h1,h2⟩:=km (w:=w) (b:=B.b) (oo:=i'*B.sz+oo) (f:=fun j=>f (oo+j)) uv hn hp (fun a ha=>fl a (List.mem_of_mem_drop ha)) (fun j hj=>by
   rw[Nat.add_assoc];exact(hf _ (by simp at hj;omega)).1) (fun j a ha=>by
   simp at ha;exact(hf _ ((List.getElem?_eq_some_iff.1 ha).1)).2 _ ha)
  exact⟨u,go _ _ _ h h1,h2⟩
 ·rename_i cs hb
  rw[hb]at hr
  obtain⟨b,oo,vs,h,h1,h2,h3,h4⟩:=kR hr
  obtain⟨u,k1,k2⟩:=km (w:=w) (b:=b) (oo:=oo) (f:=vs) uv hn hv h2 h3 (fun j a ha=>.eU _ _ (h4 j a ha))
  exact⟨u,go _ _ _ h k1,k2⟩
 ·simp at hv
theorem QY {x:Operand} {x':O} (E:cC P w D ι env a) (ho:o.op=.nilCheck x) (hx:cO P x=some x') (hv:dN (da env x')=some v):om P a o w D ι v:=by
 have hr:=dn E hx
 unfold dN at hv
 split at hv
 ·rename_i kF i' oo hb
  simp at hv;subst hv
  rw[hb]at hr
  obtain⟨B,h,hB,hk⟩:=jr hr
  exact⟨_,by simp only[execOp,ho,h];rfl,.ptr _ _ _ _ hB hk⟩
 ·rename_i cs hb
  simp at hv;subst hv
  rw[hb]at hr
  obtain⟨b,oo,vs,h,_⟩:=kR hr
  exact⟨_,by simp only[execOp,ho,h];rfl,h▸hr⟩
 ·simp at hv
theorem LQ {x i:Operand} {x' i':O} {t e:TypeId} {m:Nat} (S:gi P hs D ι g w) (E:cC P w D ι env a) (ho:o.op=.indexAddr t x i) (ht:P.underlying t=some (.slice e)) (hm:ep P e=some (m+1)) (hx:cO P x=some x') (hi:cO P i=some i')
  (hv:bF g (m+1) (da env x') (da env i')=some v):om P a o w D ι v:=by
 have hr:=dn E hx
 have De:=dn E hi
 have go:∀b oo n c k (q:Int),a.eval x=.slice (some ⟨b,oo,none⟩) n c->a.eval i=.int k q->0<=q->q<n->(execOp a.eval o).run P w=.ok (.value (.pointer (some ⟨b,oo+q.toNat*(m+1),none⟩))) w:=fun b oo n c k q h h2 h3 h4=>by
  simp only[execOp,ho,h,h2,Instr.indexAt,asIntOf,Sem.run_bind,Sem.run_pure,run_underlying ht,Result.andThen_ok,h3,h4,and_self,if_true,run_sizeOf hm,j7]
 unfold bF at hv
 split at hv
 ·rename_i rows k q hb sI
  split at hv
  ·rename_i hq
   simp only[Option.bind_eq_some_iff]at hv
   obtain⟨cs,du,hv⟩:=hv
   split at hv
   ·rename_i hlen
    simp at hv;subst hv
    rw[hb]at hr;rw[sI]at De
    have eo:=(List.getElem?_eq_some_iff.1 du).1
    obtain⟨A,c,h,h1,h2,h3⟩:=wu hr
    rcases h3 with h3|⟨b,oo,sz,vs,rfl,hD,hl,fl,hc,hi⟩
    ·subst h3;simp at du
    have fe:sz=m+1:=by rw[<-hlen,hl cs (List.mem_of_getElem? du)]
    refine⟨_,go b oo _ _ k q h (dz De) hq (by omega),.eU _ _ (.di cs b _ (vs q.toNat) hD (fl cs (List.mem_of_getElem? du)) (fun j hj=>?_) (fun j a ha=>hi _ _ _ _ du ha))⟩
    have:=hc q.toNat j eo (by rw[<-hl cs (List.mem_of_getElem? du)];exact hj)
    rw[fe]at this
    rw[Nat.add_assoc];exact this
   ·simp at hv
  ·simp at hv
 ·rename_i kF off len k q hb sI
  split at hv
  ·rename_i hq
   simp only[Option.bind_eq_some_iff]at hv
   obtain⟨r,G6,hv⟩:=hv
   split at hv
   ·rename_i yh
    simp at hv;subst hv
    rw[hb]at hr;rw[sI]at De
    obtain⟨oo,cap,B,h,hB,h1,h2,h3,h4,hk⟩:=iu hr
    obtain⟨B',dJ,R,_,_⟩:=S.row _ _ G6
    rw[hB]at dJ;injection dJ with dJ;subst dJ
    replace R:=R.row hk
    have fe:B.sz=m+1:=R.sz.trans yh
    refine⟨_,go _ _ _ _ k q h (dz De) hq.1 hq.2,?_⟩
    have Cn:oo=off*B.sz:=by rcases h2 with h2|h2<;>omega
    have:oo+q.toNat*(m+1)=(off+q.toNat)*B.sz+0:=by rw[Cn,<-fe,Nat.add_mul];rfl
    rw[this]
    exact .ptr _ _ _ _ hB hk
   ·simp at hv
  ·simp at hv
 ·simp at hv
theorem Ou {x i:Operand} {x' i':O} {t e:TypeId} {m len:Nat} (E:cC P w D ι env a) (ho:o.op=.indexAddr t x i) (ht:P.underlying t=some (.array len e)) (hm:ep P e=some (m+1)) (hx:cO P x=some x') (hi:cO P i=some i')
  (hv:cL len (m+1) (da env x') (da env i')=some v):om P a o w D ι v:=by
 have hr:=dn E hx
 have De:=dn E hi
 have go:∀b oo k (q:Int),a.eval x=.pointer (some ⟨b,oo,none⟩)->a.eval i=.int k q->0<=q->q<len->(execOp a.eval o).run P w=.ok (.value (.pointer (some ⟨b,oo+q.toNat*(m+1),none⟩))) w:=fun b oo k q h h2 h3 h4=>by
  simp only[execOp,ho,h,h2,Instr.indexAt,asIntOf,Sem.run_bind,Sem.run_pure,run_underlying ht,Instr.sureAddr,Result.andThen_ok,h3,h4,and_self,if_true,run_sizeOf hm,j7]
 unfold cL at hv
 split at hv
 ·rename_i kF r oo k q hb sI
  split at hv
  ·rename_i hq
   simp at hv;subst hv
   rw[hb]at hr;rw[sI]at De
   obtain⟨B,h,hB,hk⟩:=jr hr
   refine⟨_,go _ _ k q h (dz De) hq.1 hq.2,?_⟩
   rw[Nat.add_assoc]
   exact .ptr _ _ _ _ hB hk
  ·simp at hv
 ·rename_i cs k q hb sI
  split at hv
  ·rename_i hq
   simp at hv;subst hv
   rw[hb]at hr;rw[sI]at De
   obtain⟨b,oo,vs,h,h1,h2,h3,h4⟩:=kR hr
   refine⟨_,go _ _ k q h (dz De) hq.1 hq.2,.eU _ _ (.di _ _ _ (fun j=>vs (q.toNat*(m+1)+j)) h1 (fun a ha=>h2 a (List.mem_of_mem_drop ha)) (fun j hj=>?_) (fun j a ha=>h4 _ _ (by simpa using ha)))⟩
   rw[Nat.add_assoc]
   exact h3 _ (by simp at hj;omega)
  ·simp at hv
 ·simp at hv
theorem Ow {x i:Operand} {x' i':O} {t:TypeId} (E:cC P w D ι env a) (ho:o.op=.index t x i) (ht:P.underlying t=some .string) (hx:cO P x=some x') (hi:cO P i=some i')
  (hv:cP (da env x') (da env i')=some v):om P a o w D ι v:=by
 have hr:=dn E hx
 have De:=dn E hi
 unfold cP at hv
 split at hv
 ·rename_i s k q hb sI
  split at hv
  ·rename_i hq
   simp only[Option.map_eq_some_iff]at hv
   obtain⟨c,hc,rfl⟩:=hv
   rw[hb]at hr;rw[sI]at De
   refine⟨_,?_,.eU _ _ (.int _ _)⟩
   simp only[execOp,ho,fC hr,dz De,Instr.index,asIntOf,Sem.run_bind,Sem.run_pure,run_underlying ht,Result.andThen_ok,hq,if_true,hc]
  ·simp at hv
 ·simp at hv
theorem Ov {x i:Operand} {x' i':O} {t e:TypeId} {ag:Bool} {len n:Nat} (E:cC P w D ι env a) (ho:o.op=.index t x i) (ht:P.underlying t=some (.array len e)) (uv:nH P e=some ag) (hn:ep P e=some n) (hx:cO P x=some x') (hi:cO P i=some i')
  (hv:cN ag len n (da env x') (da env i')=some v):om P a o w D ι v:=by
 have hr:=dn E hx
 have De:=dn E hi
 unfold cN at hv
 split at hv
 ·rename_i cs k q hb sI
  split at hv
  ·rename_i hq
   rw[hb]at hr;rw[sI]at De
   obtain⟨vs,f,h,n1,fl,f1,r1⟩:=iP hr
   have go:∀u,(Go.part e vs (q.toNat*n)).run P w=.ok u w->(execOp a.eval o).run P w=.ok (.value u) w:=fun u hu=>by
    simp only[execOp,ho,h,dz De,Instr.index,asIntOf,Sem.run_bind,Sem.run_pure,run_underlying ht,Result.andThen_ok,hq,and_self,if_true,run_sizeOf hn,hu]
   unfold part at hv
   cases ag with
   |true=>
    simp only[if_true]at hv
    split at hv
    ·rename_i hl
     simp at hv;subst hv
     simp only[List.length_drop]at hl
     by_cases Me:n=0
     ·subst Me
      refine⟨_,go _ (pj uv hn),.agg _ _ (fun _=>undef) (by simp) (fun a ha=>by simp at ha) (fun j hj=>by simp at hj) (fun j a ha=>by simp at ha)⟩
     refine⟨_,go _ (pj uv hn),.agg _ _ (fun j=>f (q.toNat*n+j)) (by simp[n1];omega) (fun a ha=>fl a (List.mem_of_mem_drop (List.mem_of_mem_take ha))) (fun j hj=>?_) (fun j a ha=>?_)⟩
     ·simp at hj
      rw[Array.getElem?_extract,if_pos (by omega)];exact f1 _ (by omega)
     ·rw[List.getElem?_take]at ha
      split at ha
      ·exact r1 _ _ (by simpa using ha)
      ·simp at ha
    ·simp at hv
   |false=>
    simp only[Bool.false_eq_true,if_false]at hv
    have nL:cs[q.toNat*n]? =some v:=by simpa[List.head?_drop]using hv
    have eo:=(List.getElem?_eq_some_iff.1 nL).1
    exact⟨_,go _ (mb uv (f1 _ eo)),r1 _ _ nL⟩
  ·simp at hv
 ·simp at hv
theorem GY {x:Operand} {x':O} {i:Nat} (E:cC P w D ι env a) (ho:o.op=.extract x i) (hx:cO P x=some x') (hv:aO i (da env x')=some v):om P a o w D ι v:=by
 have hr:=dn E hx
 unfold aO at hv
 split at hv
 ·rename_i vs hb
  rw[hb]at hr
  obtain⟨us,f,h,h1,h2,h3⟩:=uB hr
  have eo:=(List.getElem?_eq_some_iff.1 hv).1
  exact⟨_,by simp only[execOp,ho,h,Instr.extract,h2 _ eo];rfl,h3 _ _ hv⟩
 ·simp at hv
theorem Q2 {x:Operand} {x':O} {t:TypeId} {e:TypeId} {n:Nat} (E:cC P w D ι env a) (ho:o.op=.call {callee:=.builtin .len,args:= #[x],argTypes:= #[t]}) (ht:P.underlying t=some (.slice e)) (hx:cO P x=some x') (hv:dO (da env x')=some n):om P a o w D ι (.int .i64 n):=by
 have hr:=dn E hx
 have go:∀A c,a.eval x=.slice A n c->(execOp a.eval o).run P w=.ok (.value (.int .i64 n)) w:=fun A c h=>by
  simp only[execOp,ho,resolve,Sem.run_bind,Sem.run_pure,Result.andThen_ok,invoke,builtin,Array.map,h]
  simp[Builtin.len_,run_underlying ht,goInt,h]
 refine⟨.int .i64 n,?_,.eU _ _ (.int _ _)⟩
 unfold dO at hv
 split at hv<;>simp at hv<;>subst hv<;>rename_i hb<;>rw[hb]at hr
 ·exact go _ _ (jZ hr)
 ·obtain⟨A,c,h,_⟩:=wu hr;exact go _ _ h
 ·obtain⟨oo,cap,B,h,_⟩:=iu hr;exact go _ _ h
theorem Oy {x:Operand} {x':O} {t:TypeId} (E:cC P w D ι env a) (ho:o.op=.call {callee:=.builtin .len,args:= #[x],argTypes:= #[t]}) (ht:P.underlying t=some .string) (hx:cO P x=some x') (hv:cR (da env x')=some v):om P a o w D ι v:=by
 have hr:=dn E hx
 unfold cR at hv
 split at hv
 ·rename_i s hb
  simp at hv;subst hv
  rw[hb]at hr
  have h:=fC hr
  refine⟨_,?_,.eU _ _ (.int _ _)⟩
  simp only[execOp,ho,resolve,Sem.run_bind,Sem.run_pure,Result.andThen_ok,invoke,builtin,Array.map,h]
  simp[Builtin.len_,run_underlying ht,goInt,h]
 ·simp at hv
theorem mZ {isS:Bool} {len cap h l:Nat} {lo hi:Option Operand} {Mq qL:Option O} (E:cC P w D ι env a) (kh:qW P lo=some Mq) (Cq:qW P hi=some qL) (hh:dD len (qL.map (da env))=some h) (hl:dE h (Mq.map (da env))=some l) (hc:len<=cap):
  (Instr.sliceBounds isS len cap (lo.map a.eval) (hi.map a.eval) none).run P w=.ok (l,h,cap) w/\l<=h/\h<=len:=by
 have bound:∀(x:Operand) (y:O) (k:IntKind) (n:Int) (m:Nat) (c:BoundsCode),cO P x=some y->da env y=.int k n->0<=n->n<=m->(Instr.sliceBound (a.eval x) m c).run P w=.ok n.toNat w:=fun x y k n m c hx hy h0 h1=>by
  have hr:=dn E hx
  rw[hy]at hr
  simp only[Instr.sliceBound,dz hr,asIntOf,Sem.run_bind,Sem.run_pure,Result.andThen_ok,h0,h1,and_self,if_true]
 have H:h<=len/\((hi=none/\h=len)∨∃x,hi=some x/\∀c,(Instr.sliceBound (a.eval x) cap c).run P w=.ok h w):=by
  cases hi with
  |none=>
   simp[qW]at Cq;subst Cq
   simp[dD]at hh;subst hh
   exact⟨Nat.le_refl _,.inl ⟨rfl,rfl⟩⟩
  |some x=>
   simp only[qW,Option.map_eq_some_iff]at Cq
   obtain⟨y,hy,rfl⟩:=Cq
   simp only[Option.map_some,dD]at hh
   split at hh
   ·rename_i e;cases e
   ·rename_i k n e
    injection e with e
    split at hh
    ·rename_i hn
     simp at hh;subst hh
     exact⟨by omega,.inr ⟨x,rfl,fun c=>bound x y k n _ _ hy e hn.1 (by omega)⟩⟩
    ·simp at hh
   ·simp at hh
 have L:l<=h/\((lo=none/\l=0)∨∃x,lo=some x/\∀c,(Instr.sliceBound (a.eval x) h c).run P w=.ok l w):=by
  cases lo with
  |none=>
   simp[qW]at kh;subst kh
   simp[dE]at hl;subst hl
   exact⟨Nat.zero_le _,.inl ⟨rfl,rfl⟩⟩
  |some x=>
   simp only[qW,Option.map_eq_some_iff]at kh
   obtain⟨y,hy,rfl⟩:=kh
   simp only[Option.map_some,dE]at hl
   split at hl
   ·rename_i e;cases e
   ·rename_i k n e
    injection e with e
    split at hl
    ·rename_i hn
     simp at hl;subst hl
     exact⟨by omega,.inr ⟨x,rfl,fun c=>bound x y k n h _ hy e hn.1 hn.2⟩⟩
    ·simp at hl
   ·simp at hl
 refine⟨?_,L.1,H.1⟩
 unfold Instr.sliceBounds
 rcases H.2 with⟨rfl,rfl⟩|⟨x,rfl,hx⟩<;>rcases L.2 with⟨rfl,rfl⟩|⟨y,rfl,hy⟩<;>
  simp only[Option.map_none,Option.map_some,Sem.run_bind,Sem.run_pure,Result.andThen_ok, *]
theorem LR {x:Operand} {x':O} {lo hi:Option Operand} {Mq qL:Option O} {t e:TypeId} {m:Nat} (S:gi P hs D ι g w) (E:cC P w D ι env a) (ho:o.op=.slice t x lo hi none) (ht:P.underlying t=some (.slice e)) (hm:ep P e=some m) (hx:cO P x=some x') (kh:qW P lo=some Mq) (Cq:qW P hi=some qL)
  (hv:bG g m (da env x') (Mq.map (da env)) (qL.map (da env))=some v):om P a o w D ι v:=by
 have hr:=dn E hx
 have go:∀A len cap l h,a.eval x=.slice A len cap->(Instr.sliceBounds true len cap (lo.map a.eval) (hi.map a.eval) none).run P w=.ok (l,h,cap) w->(execOp a.eval o).run P w=.ok (.value (.slice (if cap=l then A else A.map (·.add (l*m))) (h-l) (cap-l))) w:=fun A len cap l h h1 h2=>by
  simp only[execOp,ho,h1,Instr.sliceAt,Instr.slice,Sem.run_bind,Sem.run_pure,run_underlying ht,Result.andThen_ok,Option.map_none,h2,run_sizeOf hm]
 unfold bG at hv
 split at hv
 ·rename_i hb
  rw[hb]at hr
  simp only[Option.bind_eq_some_iff,Option.map_eq_some_iff]at hv
  obtain⟨h,hh,l,hl,rfl⟩:=hv
  obtain⟨q,q1,q2⟩:=mZ (w:=w) (isS:=true) (cap:=0) E kh Cq hh hl (Nat.le_refl _)
  have h0:h=0:=by omega
  have l0:l=0:=by omega
  subst h0;subst l0
  refine⟨_,go _ _ _ _ _ (jZ hr) q,?_⟩
  simp;exact .eU _ _ .bq
 ·rename_i rows hb
  rw[hb]at hr
  simp only[Option.bind_eq_some_iff,Option.map_eq_some_iff]at hv
  obtain⟨h,hh,l,hl,hv⟩:=hv
  split at hv
  ·rename_i ef
   simp at hv;subst hv
   obtain⟨A,c,he,c1,c2,h3⟩:=wu hr
   obtain⟨q,q1,q2⟩:=mZ (w:=w) (isS:=true) (cap:=c) E kh Cq hh hl c1
   refine⟨_,go _ _ _ _ _ he q,.eU _ _ ?_⟩
   have hlen:((rows.drop l).take (h-l)).length=h-l:=by simp;omega
   by_cases hz:h-l=0
   ·have:(rows.drop l).take (h-l)=[]:=by rw[hz];simp
    rw[this,hz]
    exact .As _ _ (by omega)
   ·rcases h3 with h3|⟨b,oo,sz,vs,rfl,hD,J2,fl,hc,hi⟩
    ·subst h3;simp at q2;omega
    rw[if_neg (by omega)]
    simp only[Option.map_some,j7]
    have Bh:sz=m:=by
     have eo:l<rows.length:=by omega
     have:=ef rows[l] (List.getElem_mem eo)
     rw[<-this,J2 _ (List.getElem_mem eo)]
    subst Bh
    refine .sl _ b _ _ _ sz (fun i j=>vs (l+i) j) hlen (by omega) (by omega) hD (fun cs du=>J2 cs (List.mem_of_mem_drop (List.mem_of_mem_take du))) (fun cs du=>fl cs (List.mem_of_mem_drop (List.mem_of_mem_take du))) (fun i j hi hj=>?_) (fun i j cs a du ha=>?_)
    ·rw[<-hc (l+i) j (by omega) hj,Nat.add_mul]
     congr 2;omega
    ·rw[List.getElem?_take]at du
     split at du
     ·exact hi _ _ _ _ (by simpa using du) ha
     ·simp at du
  ·simp at hv
 ·rename_i kF off len hb
  rw[hb]at hr
  simp only[Option.bind_eq_some_iff,Option.map_eq_some_iff]at hv
  obtain⟨r,G6,h,hh,l,hl,hv⟩:=hv
  split at hv
  ·rename_i yh
   simp at hv;subst hv
   obtain⟨oo,cap,B,he,hB,h1,h2,h3,h4,hk⟩:=iu hr
   obtain⟨B',dJ,R,_,_⟩:=S.row _ _ G6
   rw[hB]at dJ;injection dJ with dJ;subst dJ
   replace R:=R.row hk
   have fe:B.sz=m:=R.sz.trans yh
   obtain⟨q,q1,q2⟩:=mZ (w:=w) (isS:=true) (cap:=cap) E kh Cq hh hl h1
   refine⟨_,go _ _ _ _ _ he q,?_⟩
   have e1:(off+l+(cap-l))*B.sz<=B.C:=by rw[show off+l+(cap-l)=off+cap by omega];exact h3
   by_cases mL:cap=l
   ·rw[if_pos mL]
    exact .own _ _ _ _ _ B hB hk (by omega) (.inl (by omega)) e1 (by omega)
   ·rw[if_neg mL]
    simp only[Option.map_some,j7]
    have Cn:oo=off*B.sz:=by rcases h2 with h2|h2<;>omega
    exact .own _ _ _ _ _ B hB hk (by omega) (.inr (by rw[Cn,fe,Nat.add_mul])) e1 (by omega)
  ·simp at hv
 ·simp at hv
theorem JP {x:Operand} {x':O} {lo hi:Option Operand} {Mq qL:Option O} {t:TypeId} (E:cC P w D ι env a) (ho:o.op=.slice t x lo hi none) (ht:P.underlying t=some .string) (hx:cO P x=some x') (kh:qW P lo=some Mq) (Cq:qW P hi=some qL)
  (hv:bc (da env x') (Mq.map (da env)) (qL.map (da env))=some v):om P a o w D ι v:=by
 have hr:=dn E hx
 unfold bc at hv
 split at hv
 ·rename_i s hb
  rw[hb]at hr
  simp only[Option.bind_eq_some_iff,Option.map_eq_some_iff]at hv
  obtain⟨h,hh,l,hl,rfl⟩:=hv
  obtain⟨q,_,_⟩:=mZ (w:=w) (isS:=false) E kh Cq hh hl (Nat.le_refl _)
  refine⟨_,?_,.eU _ _ (.str _)⟩
  simp only[execOp,ho,fC hr,Instr.sliceAt,Instr.slice,Sem.run_bind,Sem.run_pure,run_underlying ht,Result.andThen_ok,Option.map_none,Option.isSome_none,Bool.false_eq_true,if_false,q]
 ·simp at hv
theorem DJ {xs:List Operand} {ys:List O} (E:cC P w D ι env a) (h:xs.mapM (cO P)=some ys):(xs.map a.eval).length=ys.length/\∀j y,ys[j]? =some y->dj P w D ι (da env y) ((xs.map a.eval).getD j undef):=by
 induction xs generalizing ys with
 |nil=>simp at h;subst h;simp
 |cons x r ih=>
  simp only[List.mapM_cons,Option.bind_eq_bind,Option.bind_eq_some_iff]at h
  obtain⟨c,hc,pR,du,h⟩:=h
  simp at h;subst h
  obtain⟨h1,h2⟩:=ih du
  refine⟨by simpa using h1,fun j d hd=>?_⟩
  cases j with
  |zero=>simp at hd ⊢;subst hd;exact dn E hc
  |succ j=>simp at hd ⊢;simpa using h2 j d hd
theorem OB {f:Nat} {first de:Array Operand} {AL:List O} (E:cC P w D ι env a) (ho:o.op=.makeFunc (.func f) first de) (hf:first= #[]) (hc:fM P f=true) (hx:de.toList.mapM (cO P)=some AL):om P a o w D ι (.fn f (AL.map (da env))):=by
 subst hf
 obtain⟨h1,h2⟩:=DJ E hx
 refine⟨.func (.func f) #[] (de.map a.eval),by simp only[execOp,ho,Instr.makeFunc,Sem.run_bind,Sem.run_pure,Result.andThen_ok];simp,.fn _ _ _ (fun j=>(de.toList.map a.eval).getD j undef) hc (by simpa using h1) (fun j hj=>?_) (fun j x O7=>?_)⟩
 ·simp at hj h1
  have:j<de.size:=by omega
  simp[this]
 ·simp only[List.getElem?_map,Option.map_eq_some_iff]at O7
  obtain⟨y,hy,rfl⟩:=O7
  exact h2 j y hy
theorem OC {f:Nat} {first de:Array Operand} {AL:List O} (E:cC P w D ι env a) (ho:o.op=.makeFunc (.func f) first de) (hf:de= #[]) (hc:fM P f=true) (hx:first.toList.mapM (cO P)=some AL):om P a o w D ι (.tH f (AL.map (da env))):=by
 subst hf
 obtain⟨h1,h2⟩:=DJ E hx
 refine⟨.func (.func f) (first.map a.eval) #[],by simp only[execOp,ho,Instr.makeFunc,Sem.run_bind,Sem.run_pure,Result.andThen_ok];simp,.tH _ _ _ (fun j=>(first.toList.map a.eval).getD j undef) hc (by simpa using h1) (fun j hj=>?_) (fun j x O7=>?_)⟩
 ·simp at hj h1
  have:j<first.size:=by omega
  simp[this]
 ·simp only[List.getElem?_map,Option.map_eq_some_iff]at O7
  obtain⟨y,hy,rfl⟩:=O7
  exact h2 j y hy
end
end Go.Proofs.YtgoelphibofcmaaGreat.V

namespace Go.Proofs.YtgoelphibofcmaaGreat.V
open Go.RowKit
variable {P:Program} {w w':World} {D D':Nat->Prop} {ι ι':Names}
def Mk (P:Program) (a:Act) (o:Oper) (w:World) (D:Nat->Prop) (ι:Names) (id:Id) (v:AV) (r:Row):Prop:=
 ∃u cells T,(execOp a.eval o).run P w=.ok (.value u) (w.alloc (.cells cells T))/\r.w=true/\r.rows.length*r.sz<=cells.size/\(∀cs∈r.rows,cs.length=r.sz)/\(∀cs∈r.rows,∀a∈cs,a.cell=true)/\
  (∀i j cs a,r.rows[i]? =some cs->cs[j]? =some a->∃x,cells[i*r.sz+j]? =some x/\dj P w D ι a x)/\∀ι':Names,ι' id=some ⟨w.heap.size,r.sz,cells.size,none⟩->dj P w D ι' v u
section
variable {g:Rows} {hs:Nat} {env:Env} {a:Act} {o:Oper} {id:Id} {v:AV}
theorem kL {vs:List Value} {cs:List K} (h:vs.mapM F4=some cs):eW P w D ι (cs.map K.av) vs.toArray:=by
 obtain⟨h1,h2⟩:=rK h
 refine⟨by simp[h1],fun j a ha=>?_⟩
 simp only[List.getElem?_map,Option.map_eq_some_iff]at ha
 obtain⟨c,hc,rfl⟩:=ha
 exact⟨c.val,by simpa using h2 j c hc,wo c⟩
theorem jQ {t:TypeId} {z:List K} (h:jE P t=some z):∃i v,P.info? t=some i/\i.zero=some v/\v.cells.size=i.size/\v.cells.toList.mapM F4=some z/\z.length=i.size:=by
 unfold jE at h
 split at h
 ·rename_i i hi
  split at h
  ·rename_i v hv
   split at h
   ·rename_i hs
    exact⟨i,v,hi,hv,hs,h,by rw[(rK h).1];simpa using hs⟩
   ·simp at h
  ·simp at h
 ·simp at h
theorem E5 {cs:List AV} {cells:Array Value} (h:eW P w D ι cs cells):∀i j c a,[cs][i]? =some c->c[j]? =some a->∃x,cells[i*cs.length+j]? =some x/\dj P w D ι a x:=by
 intro i j c a hi hj
 cases i with
 |zero=>simp at hi;subst hi;simpa using h.2 j a hj
 |succ i=>simp at hi
theorem QG {t:TypeId} {z:List K} (ho:o.op=.alloc t) (hz:jE P t=some z):Mk P a o w D ι id (.ptr id 0 0) ⟨true,z.length,[z.map K.av]⟩:=by
 obtain⟨i,v,hi,hv,hs,hm,hl⟩:=jQ hz
 have hk:=kL (P:=P) (w:=w) (D:=D) (ι:=ι) hm
 refine⟨.pointer (some ⟨w.heap.size,0,none⟩),v.cells,t,?_,rfl,?_,?_,?_,?_,?_⟩
 ·simp only[execOp,ho,Instr.alloc,zeroValue,typeInfo,Sem.run_bind]
  simp[hi,hv,newVar,newRow]
 ·simp[hl,hs]
 ·intro cs du;simp at du;subst du;simp
 ·intro cs du x hx;simp at du;subst du
  obtain⟨c,_,rfl⟩:=List.mem_map.1 hx;exact c.mD
 ·have:=E5 hk;simpa using this
 ·intro ι' hι
  have:=dj.ptr (P:=P) (w:=w) (D:=D) (ι:=ι') id 0 0 _ hι rfl
  simpa using this
theorem qG {x:AV} {u:Value} (h:dj P w D ι x u) (hc:x.cells.all AV.cell=true):eW P w D ι x.cells u.cells:=by
 obtain⟨h1,f,h2,h3⟩:=h.cells hc
 exact⟨h1,fun j a ha=>⟨f j,h2 j (List.getElem?_eq_some_iff.1 ha).1,h3 j a ha⟩⟩
theorem QE {t:TypeId} {x:Operand} {x':O} {cs:List AV} (E:cC P w D ι env a) (ho:o.op=.box t x) (hx:cO P x=some x') (hb:cI (da env x')=some cs):Mk P a o w D ι id (.ptr id 0 0) ⟨true,cs.length,[cs]⟩:=by
 have hr:=dn E hx
 unfold cI at hb
 split at hb
 ·rename_i ef
  simp at hb;subst hb
  have hk:=qG hr ef
  refine⟨.pointer (some ⟨w.heap.size,0,none⟩),(a.eval x).cells,t,?_,rfl,?_,?_,?_,?_,?_⟩
  ·simp only[execOp,ho,Instr.box,Sem.run_bind]
   simp[newVar,newRow]
  ·simp[hk.1]
  ·intro cs du;simp at du;subst du;rfl
  ·intro cs du y hy;simp at du;subst du
   exact List.all_eq_true.1 ef y hy
  ·exact E5 hk
  ·intro ι' hι
   have:=dj.ptr (P:=P) (w:=w) (D:=D) (ι:=ι') id 0 0 _ hι rfl
   simpa using this
 ·simp at hb
theorem foldl_set:∀(vs:List Value) (n off:Nat) (cells:Array Value),off+n+vs.length<=cells.size->((vs.zipIdx n).foldl (fun cs (x:Value×Nat)=>cs.setIfInBounds (off+x.2) x.1) cells).size=cells.size/\
  ∀k,((vs.zipIdx n).foldl (fun cs (x:Value×Nat)=>cs.setIfInBounds (off+x.2) x.1) cells)[k]? =if off+n<=k/\k<off+n+vs.length then vs[k-(off+n)]? else cells[k]?
 |[],n,off,cells,_=>⟨rfl,fun k=>by simp;intro h1 h2;omega⟩
 |v::r,n,off,cells,h=>by
  simp only[List.length_cons]at h
  obtain⟨h1,h2⟩:=foldl_set r (n+1) off (cells.setIfInBounds (off+n) v) (by simp;omega)
  simp only[List.zipIdx_cons,List.foldl_cons]
  refine⟨by rw[h1];simp,fun k=>?_⟩
  rw[h2 k]
  simp only[List.length_cons]
  by_cases hk:k=off+n
  ·subst hk
   rw[if_neg (by omega),if_pos (by omega)]
   simp[show off+n<cells.size by omega]
  ·by_cases vJ:off+n<=k/\k<off+n+(r.length+1)
   ·rw[if_pos (by omega),if_pos vJ]
    have:k-(off+n)=(k-(off+(n+1)))+1:=by omega
    rw[this,List.getElem?_cons_succ]
   ·rw[if_neg (by omega),if_neg vJ,Array.getElem?_setIfInBounds_ne (by omega)]
theorem vk (place:Nat->Option (Nat×Nat)):∀(ps:List (Nat×Value)) (qs:List (Nat×Nat×AV)) (cells:Array Value) (cs res:List AV),eW P w D ι cs cells->(∀a∈cs,a.cell=true)->ps.length=qs.length->
  (∀(k:Nat) i u o' n x,ps[k]? =some (i,u)->qs[k]? =some (o',n,x)->place i=some (o',n)/\dj P w D ι x u)->cz cs qs=some res->∃ji,Instr.fill place cells ps=some ji/\eW P w D ι res ji/\(∀a∈res,a.cell=true)/\res.length=cs.length:=by
 intro ps
 induction ps with
 |nil=>
  intro qs cells cs res hR hf hl _ hv
  cases qs with
  |nil=>simp[cz]at hv;subst hv;exact⟨cells,rfl,hR,hf,rfl⟩
  |cons q r=>simp at hl
 |cons p ps ih=>
  intro qs cells cs res hR hf hl hp hv
  cases qs with
  |nil=>simp at hl
  |cons q qs=>
   obtain⟨i,u⟩:=p
   obtain⟨oo,n,x⟩:=q
   obtain⟨mo,hr⟩:=hp 0 i u oo n x rfl rfl
   unfold cz at hv
   split at hv
   ·rename_i hc
    obtain⟨c1,c2,c3⟩:=hc
    have hk:=qG hr c3
    have hus:u.cells.size=n:=by rw[hk.1,c1]
    have du:cells.size=cs.length:=hR.1
    unfold Instr.fill
    simp only[mo]
    rw[if_neg (by rw[hus,du];simp;omega)]
    obtain⟨s1,s2⟩:=foldl_set u.cells.toList 0 oo cells (by simp;omega)
    have e0:(u.cells.zipIdx.foldl (fun cs (x:Value×Nat)=>cs.setIfInBounds (oo+x.2) x.1) cells)=(u.cells.toList.zipIdx 0).foldl (fun cs (x:Value×Nat)=>cs.setIfInBounds (oo+x.2) x.1) cells:=by
     rw[<-Array.foldl_toList];simp
    have xt:=ih qs (u.cells.zipIdx.foldl (fun cs (x:Value×Nat)=>cs.setIfInBounds (oo+x.2) x.1) cells) (cs.take oo++x.cells++cs.drop (oo+n)) res ?_ ?_ (by simpa using hl) (fun k i u o' n x h1 h2=>hp (k+1) i u o' n x (by simpa using h1) (by simpa using h2)) hv
    ·obtain⟨ji,h1,h2,h3,h4⟩:=xt
     refine⟨ji,h1,h2,h3,?_⟩
     rw[h4];simp;omega
    ·rw[e0]
     refine⟨by rw[s1,du];simp;omega,fun j a ha=>?_⟩
     rw[s2 j]
     simp only[Nat.add_zero,Array.length_toList]
     by_cases hj:oo<=j/\j<oo+u.cells.size
     ·rw[if_pos hj]
      rw[List.append_assoc,List.getElem?_append_right (by simp;omega),List.getElem?_append_left (by simp;omega)]at ha
      simp only[List.length_take]at ha
      rw[show min oo cs.length=oo by omega]at ha
      simpa using hk.2 _ _ ha
     ·rw[if_neg hj]
      by_cases hj2:j<oo
      ·rw[List.append_assoc,List.getElem?_append_left (by simp;omega),List.getElem?_take,if_pos hj2]at ha
       exact hR.2 _ _ ha
      ·rw[List.getElem?_append_right (by simp;omega)]at ha
       simp only[List.length_append,List.length_take,List.getElem?_drop]at ha
       rw[show oo+n+(j-(min oo cs.length+x.cells.length))=j by omega]at ha
       exact hR.2 _ _ ha
    ·intro b hb
     rcases List.mem_append.1 hb with hb|hb
     ·rcases List.mem_append.1 hb with hb|hb
      ·exact hf b (List.mem_of_mem_take hb)
      ·exact List.all_eq_true.1 c3 b hb
     ·exact hf b (List.mem_of_mem_drop hb)
   ·simp at hv
theorem xp {fs:List Field} (h:∀f∈fs,(P.info? f.type).isSome=true):∃zN,fs.mapM (fun f=>(P.info? f.type).map fun i=>(f.offset,i.size))=some zN/\∀(i:Nat) (f:Field) (n:Nat),fs[i]? =some f->ep P f.type=some n->zN[i]? =some (f.offset,n):=by
 induction fs with
 |nil=>exact⟨[],rfl,fun i f n h=>by simp at h⟩
 |cons f r ih=>
  obtain⟨q,h1,h2⟩:=ih (fun x hx=>h x (List.mem_cons_of_mem _ hx))
  obtain⟨i,hi⟩:=Option.isSome_iff_exists.1 (h f (by simp))
  refine⟨(f.offset,i.size)::q,by simp[hi,h1],fun k x n hk hn=>?_⟩
  cases k with
  |zero=>simp at hk;subst hk;simp[ep,hi]at hn;subst hn;rfl
  |succ k=>simp at hk ⊢;exact h2 k x n hk hn
theorem qc {ps:List (Nat×Operand)} {l:List (Nat×O)} (E:cC P w D ι env a) (h:ps.mapM (fun(x:Nat×Operand)=>(cO P x.2).map (x.1,·))=some l):l.length=ps.length/\∀(k i:Nat) (y:O),l[k]? =some (i,y)->∃x,ps[k]? =some (i,x)/\cO P x=some y:=by
 induction ps generalizing l with
 |nil=>simp at h;subst h;simp
 |cons p r ih=>
  simp only[List.mapM_cons,Option.bind_eq_bind,Option.bind_eq_some_iff]at h
  obtain⟨c,hc,pR,du,h⟩:=h
  simp at h;subst h
  obtain⟨h1,h2⟩:=ih du
  simp only[Option.map_eq_some_iff]at hc
  obtain⟨y,hy,rfl⟩:=hc
  refine⟨by simp[h1],fun k i z hk=>?_⟩
  cases k with
  |zero=>simp at hk;obtain⟨rfl,rfl⟩:=hk;exact⟨p.2,rfl,hy⟩
  |succ k=>simp at hk ⊢;exact h2 k i z hk
theorem CL {fs:Array Field} {l:List (Nat×O)} {q:List (Nat×Nat×O)} (h:sq P fs l=some q):q.length=l.length/\∀(k oo n:Nat) (y:O),q[k]? =some (oo,n,y)->∃(i:Nat) (f:Field),l[k]? =some (i,y)/\fs[i]? =some f/\f.offset=oo/\ep P f.type=some n:=by
 induction l generalizing q with
 |nil=>simp[sq]at h;subst h;simp
 |cons p r ih=>
  obtain⟨i,x⟩:=p
  unfold sq at h
  split at h
  ·rename_i f hf
   split at h
   ·rename_i n hn
    simp only[Option.map_eq_some_iff]at h
    obtain⟨q',KT,rfl⟩:=h
    obtain⟨h1,h2⟩:=ih KT
    refine⟨by simp[h1],fun k oo m y hk=>?_⟩
    cases k with
    |zero=>simp at hk;obtain⟨rfl,rfl,rfl⟩:=hk;exact⟨i,f,rfl,hf,rfl,hn⟩
    |succ k=>simp only[List.getElem?_cons_succ]at hk ⊢;exact h2 k oo m y hk
   ·simp at h
  ·simp at h
theorem eW.agg {xs:List AV} {vs:Array Value} (h:eW P w D ι xs vs) (hf:∀a∈xs,a.cell=true):dj P w D ι (.agg xs) (.agg vs):=
 .agg xs vs (fun j=>vs.getD j undef) h.1 hf (fun j hj=>by
  have:j<vs.size:=by rw[h.1];exact hj
  simp[this]) (fun j a ha=>by
  obtain⟨u,h1,h2⟩:=h.2 j a ha
  simpa[Array.getD_eq_getD_getElem?,h1]using h2)
theorem LN {t:TypeId} {ps:Array (Nat×Operand)} {fs:Array Field} {z:List K} {l:List (Nat×O)} {q:List (Nat×Nat×O)} {cs:List AV} (E:cC P w D ι env a) (ho:o.op=.build t ps) (ht:P.underlying t=some (.struct fs)) (hz:jE P t=some z) (hl:sw P ps=some l)
  (rm:∀f∈fs.toList,(P.info? f.type).isSome=true) (hq:sq P fs l=some q) (hv:cz (z.map K.av) (q.map fun(o,n,x)=>(o,n,da env x))=some cs):om P a o w D ι (.agg cs):=by
 obtain⟨it,zv,hi,qx,hs,hm,ET⟩:=jQ hz
 obtain⟨zN,mo,Tw⟩:=xp rm
 have hk:=kL (P:=P) (w:=w) (D:=D) (ι:=ι) hm
 obtain⟨n1,r1⟩:=qc E hl
 obtain⟨n2,r2⟩:=CL hq
 obtain⟨ji,h1,h2,h3,_⟩:=vk (P:=P) (w:=w) (D:=D) (ι:=ι) (zN.toArray[·]?) (ps.toList.map fun(i,x)=>(i,a.eval x)) (q.map fun(o,n,x)=>(o,n,da env x)) zv.cells _ cs (by simpa using hk)
  (fun b hb=>by obtain⟨c,_,rfl⟩:=List.mem_map.1 hb;exact c.mD) (by simp[n2,n1]) (fun k i u o' n x vI vJ=>by
   simp only[List.getElem?_map,Option.map_eq_some_iff]at vI vJ
   obtain⟨⟨i',x'⟩,hp,e1⟩:=vI
   obtain⟨⟨o2,n',y⟩,KT,e2⟩:=vJ
   simp only[Prod.mk.injEq]at e1 e2
   obtain⟨rfl,rfl⟩:=e1
   obtain⟨rfl,rfl,rfl⟩:=e2
   obtain⟨i2,f,Ik,hf,rfl,hn⟩:=r2 _ _ _ _ KT
   obtain⟨x2,Ap,hc⟩:=r1 _ _ _ Ik
   rw[hp]at Ap
   simp only[Option.some.injEq,Prod.mk.injEq]at Ap
   obtain⟨rfl,rfl⟩:=Ap
   exact⟨by simpa using Tw _ _ _ (by simpa using hf) hn,dn E hc⟩) hv
 refine⟨.agg ji,?_,h2.agg h3⟩
 have hb:P.built t ((ps.map fun(i,x)=>(i,a.eval x)).toList)=some ji:=by
  unfold Program.built
  simp only[hi,ht,qx,mo]
  simpa using h1
 simp only[execOp,ho,Sem.run_bind,run_build w t _ _ hb,Result.andThen_ok,Sem.run_pure]
theorem JO {t e:TypeId} {len n:Nat} {ps:Array (Nat×Operand)} {z:List K} {l:List (Nat×O)} {cs:List AV} (E:cC P w D ι env a) (ho:o.op=.build t ps) (ht:P.underlying t=some (.array len e)) (hz:jE P t=some z) (hl:sw P ps=some l) (hn:ep P e=some n)
  (hv:cz (z.map K.av) ((l.map fun(x:Nat×O)=>(x.1*n,n,x.2)).map fun(o,n,x)=>(o,n,da env x))=some cs):om P a o w D ι (.agg cs):=by
 obtain⟨it,zv,hi,qx,hs,hm,ET⟩:=jQ hz
 have hk:=kL (P:=P) (w:=w) (D:=D) (ι:=ι) hm
 obtain⟨n1,r1⟩:=qc E hl
 obtain⟨ie,JY,fe⟩:∃ie,P.info? e=some ie/\ie.size=n:=by simpa[ep]using hn
 obtain⟨ji,h1,h2,h3,_⟩:=vk (P:=P) (w:=w) (D:=D) (ι:=ι) (fun i=>some (i*ie.size,ie.size)) (ps.toList.map fun(i,x)=>(i,a.eval x)) ((l.map fun(x:Nat×O)=>(x.1*n,n,x.2)).map fun(o,n,x)=>(o,n,da env x)) zv.cells _ cs (by simpa using hk)
  (fun b hb=>by obtain⟨c,_,rfl⟩:=List.mem_map.1 hb;exact c.mD) (by simp[n1]) (fun k i u o' n' x vI vJ=>by
   simp only[List.getElem?_map,Option.map_eq_some_iff]at vI vJ
   obtain⟨⟨i',x'⟩,hp,e1⟩:=vI
   obtain⟨⟨o2,n2,y⟩,⟨⟨i2,y2⟩,Ik,e3⟩,e2⟩:=vJ
   simp only[Prod.mk.injEq]at e1 e2 e3
   obtain⟨rfl,rfl⟩:=e1
   obtain⟨rfl,rfl,rfl⟩:=e2
   obtain⟨rfl,rfl,rfl⟩:=e3
   obtain⟨x2,Ap,hc⟩:=r1 _ _ _ Ik
   rw[hp]at Ap
   simp only[Option.some.injEq,Prod.mk.injEq]at Ap
   obtain⟨rfl,rfl⟩:=Ap
   exact⟨by rw[fe],dn E hc⟩) hv
 refine⟨.agg ji,?_,h2.agg h3⟩
 have hb:P.built t ((ps.map fun(i,x)=>(i,a.eval x)).toList)=some ji:=by
  unfold Program.built
  simp only[hi,ht,qx,JY]
  simpa using h1
 simp only[execOp,ho,Sem.run_bind,run_build w t _ _ hb,Result.andThen_ok,Sem.run_pure]
theorem vh:∀(vs:List AV) (sz i:Nat) (rs:List (List AV)) (cs:List AV),0<sz->cs.length=(i+vs.length)*sz->rowsOf sz vs=some rs->
  cz cs ((vs.zipIdx i).map fun(v,j)=>(j*sz,sz,v))=some (cs.take (i*sz)++rs.flatten)/\rs.length=vs.length/\(∀c∈rs,c.length=sz)/\∀c∈rs,∀x∈c,x.cell=true
 |[],sz,i,rs,cs,_,hl,h=>by
  simp[rowsOf]at h;subst h
  simp at hl
  simp[cz,List.take_of_length_le (show cs.length<=i*sz by omega)]
 |v::r,sz,i,rs,cs,fe,hl,h=>by
  simp only[rowsOf,Option.bind_eq_some_iff,Option.map_eq_some_iff]at h
  obtain⟨c,hc,rs',yh,rfl⟩:=h
  unfold rowOf at hc
  split at hc
  ·rename_i zp
   simp at hc;subst hc
   obtain⟨mK,yd⟩:=zp
   simp only[List.length_cons]at hl
   have hmul:(i+(r.length+1))*sz=i*sz+sz+r.length*sz:=by rw[Nat.add_mul,Nat.add_mul];omega
   have ih:=vh r sz (i+1) rs' (cs.take (i*sz)++v.cells++cs.drop (i*sz+sz)) fe (by
    simp[mK];rw[Nat.add_mul,Nat.add_mul];omega) yh
   refine⟨?_,by simp[ih.2.1],?_,?_⟩
   ·simp only[List.zipIdx_cons,List.map_cons,cz]
    rw[if_pos ⟨mK,by omega,yd⟩,ih.1]
    congr 1
    rw[List.flatten_cons,<-List.append_assoc]
    congr 1
    rw[Nat.add_mul,Nat.one_mul,List.take_append_of_le_length (by simp[mK];omega)]
    rw[List.take_of_length_le (by simp[mK];omega)]
   ·intro c' kD;rcases List.mem_cons.1 kD with rfl|kD
    ·exact mK
    ·exact ih.2.2.1 c' kD
   ·intro c' kD;rcases List.mem_cons.1 kD with rfl|kD
    ·exact List.all_eq_true.1 yd
    ·exact ih.2.2.2 c' kD
  ·simp at hc
theorem flat_get {α:Type} {ox:List (List α)} {sz:Nat} (h:∀cs∈ox,cs.length=sz) {i j:Nat} {cs:List α} {a:α} (hi:ox[i]? =some cs) (hj:cs[j]? =some a):ox.flatten[i*sz+j]? =some a:=by
 induction ox generalizing i with
 |nil=>simp at hi
 |cons c r ih=>
  have hc:c.length=sz:=h c (by simp)
  cases i with
  |zero=>
   simp at hi;subst hi
   have eo:=(List.getElem?_eq_some_iff.1 hj).1
   rw[List.flatten_cons,List.getElem?_append_left (by omega)];simpa using hj
  |succ i=>
   rw[List.flatten_cons,List.getElem?_append_right (by rw[hc,Nat.succ_mul];omega)]
   have:(i+1)*sz+j-c.length=i*sz+j:=by rw[hc,Nat.succ_mul];omega
   rw[this]
   exact ih (fun cs du=>h cs (List.mem_cons_of_mem _ du)) (by simpa using hi)
theorem vn {α:Type} {ox:List (List α)} {sz:Nat} (h:∀cs∈ox,cs.length=sz):ox.flatten.length=ox.length*sz:=by
 induction ox with
 |nil=>simp
 |cons c r ih=>
  rw[List.flatten_cons,List.length_append,h c (by simp),ih (fun cs du=>h cs (List.mem_cons_of_mem _ du)),List.length_cons,Nat.succ_mul];omega
theorem o9 {zv:Value} {z:List K} {n:Nat} (hm:zv.cells.toList.mapM F4=some z) (jA:0<z.length):∀k,k<n->∃c,z[k % z.length]? =some c/\((Array.range n).map (zv.cells[· % zv.cells.size]!))[k]? =some c.val:=by
 intro k hk
 obtain⟨h1,h2⟩:=rK hm
 have fe:zv.cells.size=z.length:=by simpa using h1.symm
 have eo:k % z.length<z.length:=Nat.mod_lt _ jA
 refine⟨z[k % z.length],List.getElem?_eq_getElem eo,?_⟩
 have h3:=h2 _ _ (List.getElem?_eq_getElem eo)
 simp only[Array.getElem?_toList]at h3
 have Bg:k % z.length<zv.cells.size:=by rw[fe];exact eo
 rw[Array.getElem?_map,Array.getElem?_range,if_pos hk]
 simp only[Option.map_some]
 rw[fe,getElem!_pos zv.cells (k % z.length) Bg]
 rw[Array.getElem?_eq_getElem Bg]at h3
 exact h3
theorem IL {t e:TypeId} {len sz:Nat} {ps:Array (Nat×Operand)} {z:List K} {l:List (Nat×O)} {rs:List (List AV)} (E:cC P w D ι env a) (ho:o.op=.buildSlice t len ps) (ht:P.underlying t=some (.slice e)) (fe:ep P e=some (sz+1)) (hz:jE P e=some z)
  (hl:sw P ps=some l) (KU:len*(sz+1)<=4096) (Qn:l.map (·.1)=List.range len) (hv:rowsOf (sz+1) (l.map fun x=>da env x.2)=some rs):Mk P a o w D ι id (.own id 0 len) ⟨true,sz+1,rs⟩:=by
 obtain⟨it,zv,hi,qx,hs,hm,ET⟩:=jQ hz
 have jz:it.size=sz+1:=by simpa[ep,hi]using fe
 obtain⟨n1,r1⟩:=qc E hl
 have G7:l.length=len:=by have:=congrArg List.length Qn;simpa using this
 by_cases h0:len=0
 ·subst h0
  have RA:l=[]:=List.length_eq_zero_iff.1 G7
  subst RA
  simp[rowsOf]at hv;subst hv
  have RH:ps= #[]:=by
   apply Array.ext';apply List.eq_nil_of_length_eq_zero;rw[<-n1];rfl
  subst RH
  refine⟨.slice (some ⟨w.heap.size,0,none⟩) 0 0, #[],e,?_,rfl,by simp,by simp,by simp,fun i j cs x hi=>by simp at hi,fun ι' hι=>?_⟩
  ·simp[execOp,ho,Instr.buildSlice,run_underlying ht,sizeOf,typeInfo,hi,Instr.fill,newRow,Array.range_zero']
  ·exact .own _ 0 0 0 0 _ hι rfl (Nat.le_refl _) (.inl rfl) (by simp) (by simp[maxLen])
 ·have yj:eW P w D ι ((List.range (len*(sz+1))).map fun k=>(z.getD (k % z.length) .bq).av) ((Array.range (len*(sz+1))).map (zv.cells[· % zv.cells.size]!)):=by
   refine⟨by simp,fun j x hx=>?_⟩
   simp only[List.getElem?_map,Option.map_eq_some_iff]at hx
   obtain⟨k,hk,rfl⟩:=hx
   have lO:=(List.getElem?_eq_some_iff.1 hk).1
   simp at lO
   rw[List.getElem?_range lO]at hk
   injection hk with hk
   subst hk
   obtain⟨c,hc,G3⟩:=o9 hm (by rw[ET,jz];omega) j lO
   exact⟨c.val,G3,by rw[List.getD_eq_getElem?_getD,hc];exact wo c⟩
  obtain⟨f1,f2,f3,f4⟩:=vh (l.map fun x=>da env x.2) (sz+1) 0 rs ((List.range (len*(sz+1))).map fun k=>(z.getD (k % z.length) .bq).av) (by omega) (by simp[G7]) hv
  obtain⟨ji,h1,h2,h3,h4⟩:=vk (P:=P) (w:=w) (D:=D) (ι:=ι) (fun i=>some (i*it.size,it.size)) (ps.toList.map fun(i,x)=>(i,a.eval x)) _ _ _ _ yj
   (fun b hb=>by obtain⟨c,_,rfl⟩:=List.mem_map.1 hb;exact K.mD _) (by simp[n1]) (fun k i u o' n x vI vJ=>by
   simp only[List.getElem?_map,Option.map_eq_some_iff]at vI vJ
   obtain⟨⟨i',x'⟩,hp,e1⟩:=vI
   obtain⟨⟨v2,j2⟩,KT,e2⟩:=vJ
   simp only[Prod.mk.injEq]at e1 e2
   obtain⟨rfl,rfl⟩:=e1
   obtain⟨rfl,rfl,rfl⟩:=e2
   rw[List.getElem?_zipIdx]at KT
   simp only[List.getElem?_map,Option.map_map,Option.map_eq_some_iff,Function.comp_apply,Prod.mk.injEq,Nat.zero_add]at KT
   obtain⟨⟨i2,y⟩,Ik,rfl,rfl⟩:=KT
   obtain⟨x2,Ap,hc⟩:=r1 _ _ _ Ik
   rw[hp]at Ap
   simp only[Option.some.injEq,Prod.mk.injEq]at Ap
   obtain⟨rfl,rfl⟩:=Ap
   have uw:(l.map (·.1))[k]? =some i':=by rw[List.getElem?_map,Ik];rfl
   have lO:=(List.getElem?_eq_some_iff.1 uw).1
   rw[Qn]at uw
   simp at lO
   rw[List.getElem?_range (by omega)]at uw
   injection uw with uw
   subst uw
   exact⟨by rw[jz],dn E hc⟩) f1
  simp only[Nat.zero_mul,List.take_zero,List.nil_append,List.length_map]at h2 h3 h4 f2
  have du:ji.size=len*(sz+1):=by rw[h2.1,h4];simp
  refine⟨.slice (some ⟨w.heap.size,0,none⟩) len len,ji,e,?_,rfl,?_,f3,f4,fun i j cs x qL hj=>h2.2 _ _ (flat_get f3 qL hj),fun ι' hι=>?_⟩
  ·have gH:=run_buildSlice (P:=P) w t e len (ps.map fun(i,x)=>(i,a.eval x)) ji it zv ht hi qx (by rw[jz];omega) (by rw[jz];exact Nat.mul_ne_zero h0 (by omega)) (by rw[<-jz]at h1;simpa using h1)
   simp only[execOp,ho,Sem.run_bind,gH,Result.andThen_ok,Sem.run_pure]
  ·dsimp only;rw[f2,G7,du];exact Nat.le_refl _
  ·refine .own _ 0 len 0 len _ hι rfl (Nat.le_refl _) (.inr (by simp)) ?_ (by simp only[maxLen];have:=Nat.le_mul_of_pos_right len (show 0<sz+1 by omega);omega)
   dsimp only;rw[du];simp
theorem Gf {t e:TypeId} {it:TypeInfo} {m:Nat} {z:List K} {l c:Operand} {l' c':O} {n:Nat} {r:Row} (E:cC P w D ι env a) (ho:o.op=.makeSlice t l c) (ht:P.underlying t=some (.slice e)) (fe:ep P e=some (m+1)) (hz:jE P e=some z) (Tc:P.info? e=some it) (hby:it.bytes<=32768)
  (hl:cO P l=some l') (hc:cO P c=some c') (hv:gx z (da env l') (da env c')=some (n,r)):Mk P a o w D ι id (.own id 0 n) r:=by
 obtain⟨it',zv,hi,qx,hs,hm,ET⟩:=jQ hz
 rw[Tc]at hi;injection hi with hi;subst hi
 have jz:it.size=m+1:=by simpa[ep,Tc]using fe
 unfold gx at hv
 split at hv
 ·rename_i k1 ln k2 cn e1 e2
  split at hv
  ·rename_i hb
   obtain⟨b1,b2,b3⟩:=hb
   simp at hv
   obtain⟨rfl,rfl⟩:=hv
   have r1:=dz (e1▸dn E hl)
   have r2:=dz (e2▸dn E hc)
   unfold dr at b3
   have L6:(it.bytes:Int)*cn<=281474976710656:=by
    have h1:(it.bytes:Int)<=32768:=by omega
    have h2:(it.bytes:Int)*cn<=32768*16777216:=Int.mul_le_mul h1 (by omega) (by omega) (by omega)
    omega
   have gH:=run_make (P:=P) w t e it zv ht Tc qx k1 k2 ln cn b1 b2 L6 (by omega)
   have jk:∀k,k<cn.toNat*it.size->∃x,z[k % z.length]? =some x/\(madeCells zv.cells (cn.toNat*it.size))[k]? =some x.val:=fun k hk=>o9 hm (by rw[ET,jz];omega) k hk
   refine⟨.slice (some ⟨w.heap.size,0,none⟩) ln.toNat cn.toNat,madeCells zv.cells (cn.toNat*it.size),e,by simp only[execOp,ho,r1,r2,Sem.run_bind,gH,Result.andThen_ok,Sem.run_pure],rfl,?_,?_,?_,?_,fun ι' hι=>?_⟩
   ·simp only[List.length_replicate,size_madeCells,ET]
    exact Nat.mul_le_mul_right _ (by omega)
   ·intro cs du
    have:=List.eq_of_mem_replicate du
    subst this;simp
   ·intro cs du x hx
    have:=List.eq_of_mem_replicate du
    subst this
    obtain⟨c,_,rfl⟩:=List.mem_map.1 hx;exact c.mD
   ·intro i j cs x qL hj
    have nI:=(List.getElem?_eq_some_iff.1 qL).1
    have:=List.eq_of_mem_replicate (List.mem_of_getElem? qL)
    subst this
    simp only[List.length_replicate]at nI
    simp only[List.getElem?_map,Option.map_eq_some_iff]at hj
    obtain⟨q,hq,rfl⟩:=hj
    have gV:=(List.getElem?_eq_some_iff.1 hq).1
    dsimp only
    obtain⟨x,hx,Ap⟩:=jk (i*z.length+j) (by
     rw[<-ET]
     calc i*z.length+j<i*z.length+z.length:=by omega
      _=(i+1)*z.length:=by rw[Nat.add_mul,Nat.one_mul]
      _<=cn.toNat*z.length:=Nat.mul_le_mul_right _ (by omega))
    rw[Nat.mul_comm i,Nat.mul_add_mod,Nat.mod_eq_of_lt gV,hq]at hx
    injection hx with hx;subst hx
    exact⟨_,by rw[Nat.mul_comm i]at Ap ⊢;exact Ap,wo q⟩
   ·refine .own _ 0 _ 0 _ _ hι rfl (by omega) (.inr (by simp)) ?_ (by simp only[maxLen];omega)
    dsimp only;rw[size_madeCells,ET];simp
  ·simp at hv
 ·simp at hv
end
end Go.Proofs.YtgoelphibofcmaaGreat.V

namespace Go.Proofs.YtgoelphibofcmaaGreat.V
open Go.RowKit
variable {P:Program} {w w':World} {D D':Nat->Prop} {ι ι':Names}
def Eh (P:Program) (k:TypeId) (m:MK):Prop:=
 (∃s,m=⟨false,[s]⟩/\fo P k=some s)∨
 (∃fs ts,m=⟨true,ts⟩/\P.underlying k=some (.struct fs)/\eK P 4 0 fs.toList=some ts/\P.stoodInHeld k=false/\∀f∈fs.toList,(fo P f.type).isSome=true)
theorem qV {t:TypeId} {m:MK} {z:K} (h:su P t=some (m,z)):∃k e i zv,P.underlying t=some (.map k e)/\P.info? e=some i/\i.zero=some zv/\F4 zv=some z/\Eh P k m:=by
 unfold su at h
 split at h
 ·rename_i k e ht
  split at h
  ·rename_i zv s h1 h2 h3
   simp only[Option.map_eq_some_iff,Prod.mk.injEq]at h
   obtain⟨z',hz,rfl,rfl⟩:=h
   simp only[Option.bind_eq_some_iff]at h2
   obtain⟨i,hi,qx⟩:=h2
   exact⟨k,e,i,zv,ht,hi,qx,hz,.inl ⟨s,rfl,h3⟩⟩
  ·rename_i zv fs h1 h2 h3 h4
   split at h
   ·rename_i ts z' xz hz
    split at h
    ·rename_i hc
     simp only[Option.some.injEq,Prod.mk.injEq]at h
     obtain⟨rfl,rfl⟩:=h
     simp only[Option.bind_eq_some_iff]at h2
     obtain⟨i,hi,qx⟩:=h2
     simp only[Bool.not_eq_true',List.all_eq_true]at hc
     exact⟨k,e,i,zv,ht,hi,qx,hz,.inr ⟨fs,ts,rfl,h4,xz,hc.1,hc.2⟩⟩
    ·cases h
   ·cases h
  ·cases h
 ·cases h
theorem wE {t:TypeId} {s:TS} (ht:fo P t=some s) (em:Bool) (n:Nat) (v:Value):(Instr.checkKey em (n+1) t v).run P w=.ok () w:=by
 unfold Instr.checkKey
 cases s with
 |tB=>simp[run_underlying (pk ht)]
 |tS=>simp[run_underlying (pq ht)]
 |tI=>
  obtain⟨q,hq⟩:=po ht
  simp[run_underlying hq]
theorem wG (em:Bool) (n:Nat) (vs:Array Value):∀(d:Nat) (fs:List Field) (off:Nat) (ts:List TS),eK P (d+1) off fs=some ts->(∀f∈fs,(fo P f.type).isSome=true)->off+ts.length<=vs.size->
  Sem.run P (forIn fs PUnit.unit fun f (_:PUnit)=>if f.name≠ "_" then do
    let x <-Go.part f.type vs f.offset
    Instr.checkKey em (n+1) f.type x
    pure (ForInStep.yield PUnit.unit)
   else pure (ForInStep.yield PUnit.unit)) w=Result.ok PUnit.unit w
 |d,[],off,ts,_,_,_=>by simp
 |d,f::r,off,ts,hf,hs,hl=>by
  rw[x7]at hf
  split at hf
  ·rename_i hcond
   obtain⟨ho,gM⟩:=hcond
   split at hf
   ·rename_i s O4
    split at hf
    ·rename_i uv
     simp only[Option.map_eq_some_iff]at hf
     obtain⟨Mx,hr,rfl⟩:=hf
     simp only[List.length_cons]at hl
     have ih:=wG em n vs d r (off+1) Mx hr (fun f hf=>hs f (List.mem_cons_of_mem _ hf)) (by omega)
     have hu:vs[off]? =some vs[off]:=by simp
     simp only[List.forIn_cons,Sem.run_bind,if_pos gM,ho,mb uv hu,Result.andThen_ok,wE O4,Sem.run_pure]
     exact ih
    ·cases hf
   ·rename_i hn
    have:=hs f (by simp)
    rw[hn]at this;cases this
  ·cases hf
theorem DP {k:TypeId} {m:MK} (hk:Eh P k m) (em:Bool) (key:AV) (u:Value) (uv:key.isAgg=m.ka) (hlen:key.cells.length=m.ks) (hr:dj P w D ι key u):(Instr.checkKey em 10000 k u).run P w=.ok () w:=by
 rcases hk with⟨s,rfl,hs⟩|⟨fs,ts,rfl,rm,xz,eC,ef⟩
 ·exact wE hs em 9999 u
 ·cases key<;>simp[AV.isAgg]at uv
  rename_i cs
  obtain⟨vs,f,rfl,h1,_⟩:=iP hr
  unfold Instr.checkKey
  simp only[Sem.run_bind,run_underlying rm,Result.andThen_ok]
  rw[<-Array.forIn_toList]
  have h:=wG (P:=P) (w:=w) em 9998 vs 3 fs.toList 0 ts xz ef (by simp[AV.cells,MK.ks]at hlen;omega)
  rw[h]
  rfl
theorem Hs (a b:ByteArray):(a==b)=decide (a=b):=by
 by_cases h:a=b
 ·subst h;rw[decide_eq_true rfl]
  obtain⟨x⟩:=a
  show(x==x)=true
  simp
 ·rw[decide_eq_false h,Bool.eq_false_iff]
  intro hc
  obtain⟨x⟩:=a
  obtain⟨y⟩:=b
  exact h (by rw[show x=y by simpa using(show(x==y)=true from hc)])
theorem Ji {t:TypeId} {s:TS} {x y:AV} {u v:Value} {b:Bool} {d:TypeDesc} (ht:fo P t=some s) (hd:P.underlying t=some d) (he:fA s x y=some b) (hx:dj P w D ι x u) (hy:dj P w D ι y v):Instr.sameNow d u v=some b:=by
 unfold fA at he
 split at he
 ·rename_i k n k' n'
  split at he
  ·rename_i hk
   subst hk
   simp at he;subst he
   obtain⟨q,hq⟩:=po ht
   rw[hd]at hq;injection hq with hq;subst hq
   rw[dz hx,dz hy]
   simp[Instr.sameNow]
   rfl
  ·cases he
 ·simp at he;subst he
  have hq:=pk ht
  rw[hd]at hq;injection hq with hq;subst hq
  rw[fa hx,fa hy];rfl
 ·rename_i a c
  simp at he;subst he
  have hq:=pq ht
  rw[hd]at hq;injection hq with hq;subst hq
  rw[fC hx,fC hy]
  simp only[Instr.sameNow,Hs]
 ·cases he
def Found (es:List MapEntry) (i:Nat) (r:Option Nat) (res:Option (Nat×Value)):Prop:=(r=none/\res=none)∨∃j e,r=some (i+j)/\es[j]? =some e/\res=some (i+j,e.val)
theorem vp {e:MapEntry} {es:List MapEntry} {i:Nat} {r:Option Nat} {res:Option (Nat×Value)} (h:Found es (i+1) r res):Found (e::es) i r res:=by
 rcases h with h|⟨j,x,h1,h2,h3⟩
 ·exact .inl h
 ·exact .inr ⟨j+1,x,by rw[h1];congr 1;omega,by simpa using h2,by rw[h3];congr 2;omega⟩
theorem AX {t:TypeId} {s:TS} {d:TypeDesc} {x:AV} {u:Value} (ht:fo P t=some s) (hd:P.underlying t=some d) (hx:dj P w D ι x u):∀(rows:List (List AV)) (es:List MapEntry) (i:Nat) (r:Option Nat),es.length=rows.length->
  (∀(j:Nat) (cs:List AV),rows[j]? =some cs->∃(e:MapEntry) (kv:AV),es[j]? =some e/\cs.head? =some kv/\dj P w D ι kv e.key)->fZ ⟨false,[s]⟩ [x] rows i=some r->∃res,Instr.findNow d u es i=some res/\Found es i r res
 |[],[],i,r,_,_,h=>by
  simp[fZ]at h;subst h
  exact⟨none,rfl,.inl ⟨rfl,rfl⟩⟩
 |[],e::es,i,r,hl,_,h=>by simp at hl
 |cs::rows,[],i,r,hl,_,h=>by simp at hl
 |cs::rows,e::es,i,r,hl,hr,h=>by
  obtain⟨e',kv,KE,hk,gC⟩:=hr 0 cs rfl
  simp at KE;subst KE
  have du:cs.take (MK.ks ⟨false,[s]⟩)=[kv]:=by
   cases cs with
   |nil=>simp at hk
   |cons a l=>simp at hk;subst hk;simp[MK.ks]
  unfold fZ at h
  rw[du]at h
  cases hq:fA s x kv with
  |none=>simp[eS,hq]at h
  |some b=>
   have hs:=Ji ht hd hq hx gC
   cases b with
   |true=>
    simp[eS,hq]at h;subst h
    exact⟨some (i,e.val),by simp[Instr.findNow,hs],.inr ⟨0,e,rfl,rfl,rfl⟩⟩
   |false=>
    simp[eS,hq]at h
    obtain⟨res,h1,h2⟩:=AX ht hd hx rows es (i+1) r (by simpa using hl) (fun j cs hj=>hr (j+1) cs (by simpa using hj)) h
    exact⟨res,by simp[Instr.findNow,hs,h1],vp h2⟩
theorem pT {t:TypeId} {fs:Array Field} {ts:List TS} {xs ys:List AV} {vs us:Array Value} {b:Bool} (rm:P.underlying t=some (.struct fs)) (eC:P.stoodInHeld t=false) (xz:eK P 4 0 fs.toList=some ts) (hx:eW P w D ι xs vs) (hy:eW P w D ι ys us) (hv:eS ts xs ys=some b):(Op.equal t (.agg vs) (.agg us)).run P w=.ok b w:=by
 obtain⟨l1,l2⟩:=q9 hv
 have q:=rR (w:=w) 4 fs.toList 0 ts xz 9998 (by omega) xs ys vs us b hx hy (by simpa[List.take_of_length_le,l1,l2]using hv)
 have Ma:P.fieldsOf t=fs:=by simp[Program.fieldsOf,rm]
 unfold Op.equal
 rw[show Op.maxDepth=9999+1 from rfl,run_equalIn_struct w 9999 t _ _ (by rw[Ma];exact rm) eC,Ma,q]
theorem rO {cs:List AV} {v:Value} (h:dj P w D ι (.agg cs) v):∃vs,v=.agg vs/\eW P w D ι cs vs:=by
 obtain⟨vs,f,rfl,n1,_,f1,r1⟩:=iP h
 exact⟨vs,rfl,n1,fun j a ha=>⟨f j,f1 j (List.getElem?_eq_some_iff.1 ha).1,r1 j a ha⟩⟩
theorem AW {t:TypeId} {fs:Array Field} {ts:List TS} {xs:List AV} {vs:Array Value} (rm:P.underlying t=some (.struct fs)) (eC:P.stoodInHeld t=false) (xz:eK P 4 0 fs.toList=some ts) (hx:eW P w D ι xs vs):∀(rows:List (List AV)) (es:List MapEntry) (i:Nat) (r:Option Nat),es.length=rows.length->
  (∀(j:Nat) (cs:List AV),rows[j]? =some cs->∃e:MapEntry,es[j]? =some e/\dj P w D ι (.agg (cs.take ts.length)) e.key)->fZ ⟨true,ts⟩ xs rows i=some r->∃res,(Instr.findAsking t (.agg vs) es i).run P w=.ok res w/\Found es i r res
 |[],[],i,r,_,_,h=>by
  simp[fZ]at h;subst h
  exact⟨none,by simp[Instr.findAsking],.inl ⟨rfl,rfl⟩⟩
 |[],e::es,i,r,hl,_,h=>by simp at hl
 |cs::rows,[],i,r,hl,_,h=>by simp at hl
 |cs::rows,e::es,i,r,hl,hr,h=>by
  obtain⟨e',KE,gC⟩:=hr 0 cs rfl
  simp at KE;subst KE
  obtain⟨us,hk,hy⟩:=rO gC
  unfold fZ at h
  simp only[MK.ks]at h
  split at h
  ·rename_i hq
   simp at h;subst h
   have q:=pT rm eC xz hx hy hq
   exact⟨some (i,e.val),by simp[Instr.findAsking,hk,q],.inr ⟨0,e,rfl,rfl,rfl⟩⟩
  ·rename_i hq
   have q:=pT rm eC xz hx hy hq
   obtain⟨res,h1,h2⟩:=AW rm eC xz hx rows es (i+1) r (by simpa using hl) (fun j cs hj=>hr (j+1) cs (by simpa using hj)) h
   exact⟨res,by simp[Instr.findAsking,hk,q,h1],vp h2⟩
  ·cases h
theorem u5 {a:AV} (h:a.isAgg=false):a.cells=[a]:=by cases a<;>simp_all [AV.isAgg,AV.cells]
theorem vm {k:TypeId} {m:MK} {B:r8} {r:Row} (hk:Eh P k m) {key:AV} {u:Value} (hr:dj P w D ι key u) {es:Array MapEntry} (fe:es.size=r.rows.length)
  (hM:∀(i:Nat) (cs:List AV),r.rows[i]? =some cs->∃(e:MapEntry) (kv vv:AV),es[i]? =some e/\part m.ka m.ks cs=some kv/\cs[m.ks]? =some vv/\dj P w D ι kv e.key/\dj P w D ι vv e.val) {fi:Option Nat} (h:fP m key r.rows=some fi):
  (∀em,(Instr.checkKey em 10000 k u).run P w=.ok () w)/\∃res,(Instr.findKey k u es.toList).run P w=.ok res w/\Found es.toList 0 fi res:=by
 unfold fP at h
 split at h
 ·rename_i hc
  obtain⟨c1,c2,c3⟩:=hc
  refine⟨fun em=>DP hk em key u c1 c2 hr,?_⟩
  rcases hk with⟨s,rfl,hs⟩|⟨fs,ts,rfl,rm,xz,eC,ef⟩
  ·rw[u5 c1]at h
   have hd:∃d,P.underlying k=some d:=by
    cases s with
    |tB=>exact⟨_,pk hs⟩
    |tS=>exact⟨_,pq hs⟩
    |tI=>obtain⟨q,hq⟩:=po hs;exact⟨_,hq⟩
   obtain⟨d,hd⟩:=hd
   obtain⟨res,h1,h2⟩:=AX hs hd hr r.rows es.toList 0 fi (by simpa using fe) (fun j cs hj=>by
    obtain⟨e,kv,vv,q1,q2,_,q4,_⟩:=hM j cs hj
    exact⟨e,kv,by simpa using q1,by simpa[part]using q2,q4⟩) h
   exact⟨res,by simp[Instr.findKey,run_underlying hd,h1],h2⟩
  ·cases key<;>simp[AV.isAgg]at c1
   rename_i cs
   obtain⟨vs,rfl,hL⟩:=rO hr
   obtain⟨res,h1,h2⟩:=AW rm eC xz hL r.rows es.toList 0 fi (by simpa using fe) (fun j cs hj=>by
    obtain⟨e,kv,vv,q1,q2,_,q4,_⟩:=hM j cs hj
    unfold part at q2
    simp only[if_true]at q2
    split at q2
    ·simp only[Option.some.injEq]at q2;subst q2
     exact⟨e,by simpa using q1,q4⟩
    ·cases q2) h
   exact⟨res,(run_findKey_eq w (by simp[rm]) _ _).trans h1,h2⟩
 ·cases h
section
variable {g:Rows} {hs:Nat} {env:Env} {a:Act} {o:Oper} {id:Id} {v:AV}
theorem zH {m:MK} {x:AV} {u:Value} {p:Id×Row} (S:gi P hs D ι g w) (hr:dj P w D ι x u) (h:dF g m x=some p):∃B,u=.map (some B.b)/\g p.1=some p.2/\ι p.1=some B/\B.k=some (.map m)/\LV P w D ι B m p.2:=by
 unfold dF at h
 split at h
 ·rename_i i m'
  split at h
  ·rename_i hm
   subst hm
   simp only[Option.map_eq_some_iff]at h
   obtain⟨r,hg,rfl⟩:=h
   obtain⟨B,rfl,hB,hk⟩:=Lx hr
   obtain⟨B',dJ,R,_⟩:=S.row i r hg
   rw[hB]at dJ;injection dJ with dJ;subst dJ
   exact⟨B,rfl,hg,hB,hk,(R.map _ hk).2⟩
  ·cases h
 ·cases h
theorem OA {t:TypeId} {x k:Operand} {ok:Bool} {m:MK} {z:K} {x' k':O} {mr:Option Row} (S:gi P hs D ι g w) (E:cC P w D ι env a) (ho:o.op=.lookup t x k ok) (hc:su P t=some (m,z)) (hx:cO P x=some x') (hk:cO P k=some k')
  (hv:bt (.look m ok z) [da env x',da env k'] g id=some (v,mr)):mr=none/\om P a o w D ι v:=by
 obtain⟨kt,e,i,zv,ht,hi,qx,Rz,hK⟩:=qV hc
 simp only[bt,Option.bind_eq_some_iff,Option.map_eq_some_iff,Prod.mk.injEq]at hv
 obtain⟨p,hp,fi,Ia,y,hy,rfl,rfl⟩:=hv
 obtain⟨B,hu,hg,hB,uu,es,clock,hb,fe,hlen,hM⟩:=zH S (dn E hx) hp
 obtain⟨JU,res,hf,hF⟩:=vm (B:=B) hK (dn E hk) fe hM Ia
 have key:∃val,(match res with|some (_,v)=>(v,true)|none=>(zv,false))=(val,fi.isSome)/\dj P w D ι y val:=by
  rcases hF with⟨rfl,rfl⟩|⟨j,en,rfl,he,rfl⟩
  ·simp only[dL,Option.some.injEq]at hy;subst hy
   refine⟨zv,rfl,?_⟩
   rw[zy Rz];exact wo z
  ·simp only[dL,Option.bind_eq_some_iff,Nat.zero_add]at hy
   obtain⟨cs,du,hy⟩:=hy
   obtain⟨e',kv,vv,q1,_,q3,_,q5⟩:=hM _ cs du
   rw[hy]at q3;injection q3 with q3;subst q3
   have:e'=en:=by
    have h1:es.toList[j]? =some e':=by simpa using q1
    rw[he]at h1;injection h1 with h1;exact h1.symm
   subst this
   exact⟨_,rfl,q5⟩
 obtain⟨val,rD,lv⟩:=key
 have fu:(getObj B.b).run P w=.ok (.map es clock) w:=MapKept.run_getObj_map hb
 have hz:(zeroValue e).run P w=.ok zv w:=by simp[zeroValue,typeInfo,hi,qx]
 refine⟨rfl,if ok then .tuple #[val,.bool fi.isSome]else val,?_,?_⟩
 ·simp only[execOp,ho,hu,Instr.lookup,Sem.run_bind,run_underlying ht,Result.andThen_ok,fu,Sem.run_pure,JU,hf]
  rcases hF with⟨rfl,rfl⟩|⟨j,en,rfl,he,rfl⟩
  ·simp only[Prod.mk.injEq]at rD
   simp[hz,rD.1]
  ·simp only[Prod.mk.injEq]at rD
   simp[rD.1]
 ·cases ok with
  |false=>exact lv
  |true=>
   refine .iO _ _ (fun j=>if j=0 then val else .bool fi.isSome) rfl (fun j hj=>?_) (fun j b hj=>?_)
   ·have:j=0∨j=1:=by simp at hj;omega
    rcases this with rfl|rfl<;>rfl
   ·match j,hj with
    |0,hj=>simp at hj;subst hj;exact lv
    |1,hj=>simp at hj;subst hj;exact .eU _ _ (.bool _)
    |j+2,hj=>simp at hj
theorem OD {t:TypeId} {x:Operand} {m:MK} {z:K} {x':O} {mr:Option Row} (S:gi P hs D ι g w) (E:cC P w D ι env a) (ho:o.op=.call {callee:=.builtin .len,args:= #[x],argTypes:= #[t]}) (hc:su P t=some (m,z)) (hx:cO P x=some x')
  (hv:bt (.len m) [da env x'] g id=some (v,mr)):mr=none/\om P a o w D ι v:=by
 obtain⟨kt,e,i,zv,ht,hi,qx,Rz,hK⟩:=qV hc
 simp only[bt,Option.map_eq_some_iff,Prod.mk.injEq]at hv
 obtain⟨p,hp,rfl,rfl⟩:=hv
 obtain⟨B,hu,hg,hB,uu,es,clock,hb,fe,hlen,hM⟩:=zH S (dn E hx) hp
 have fu:(getObj B.b).run P w=.ok (.map es clock) w:=MapKept.run_getObj_map hb
 refine⟨rfl,.int .i64 (es.size:Int),?_,by rw[fe];exact .eU _ _ (.int _ _)⟩
 simp only[execOp,ho,resolve,Sem.run_bind,Sem.run_pure,Result.andThen_ok,invoke,builtin,Array.map,hu]
 simp[Builtin.len_,run_underlying ht,goInt,hu,fu]
def MkM (P:Program) (a:Act) (o:Oper) (w:World) (id:Id) (v:AV) (r:Row):Prop:=
 ∃m,(execOp a.eval o).run P w=.ok (.value (.map (some w.heap.size))) (w.alloc (.map #[] 0))/\v=.map id m/\r=⟨true,m.sg,[]⟩
theorem QF {t:TypeId} {m:MK} (ho:o.op=.makeMap t none):MkM P a o w id (.map id m) ⟨true,m.sg,[]⟩:=by
 refine⟨m,?_,rfl,rfl⟩
 simp[execOp,ho,Instr.makeMap,go_sem]
def MkC (P:Program) (a:Act) (o:Oper) (w:World) (id:Id) (v:AV) (r:Row):Prop:=
 ∃n,(execOp a.eval o).run P w=.ok (.value (.chan (some w.heap.size))) (w.alloc (.chan n #[] false 0 0 false))/\v=.qZ id/\r=⟨true,qj+n,[]⟩
theorem NZ {t e:TypeId} {x:Operand} {x':O} {dir:ChanDir} {i:TypeInfo} {n:Nat} (E:cC P w D ι env a) (ho:o.op=.makeChan t x) (ht:P.underlying t=some (.chan dir e)) (hi:P.info? e=some i) (hb:i.bytes<=32768) (hx:cO P x=some x') (hn:cU (da env x')=some n):MkC P a o w id (.qZ id) ⟨true,qj+n,[]⟩:=by
 refine⟨n,?_,rfl,rfl⟩
 have hr:=dn E hx
 unfold cU at hn
 split at hn
 ·rename_i k m hm
  rw[hm]at hr
  split at hn
  ·rename_i hc
   simp only[Option.some.injEq]at hn
   subst hn
   have EJ:((m.toNat:Nat):Int)=m:=by omega
   have eo:(i.bytes:Int)*(m.toNat:Nat)<=281474976710544:=by
    have h1:i.bytes*m.toNat<=32768*1048576:=Nat.mul_le_mul hb (by omega)
    have h2:((i.bytes*m.toNat:Nat):Int)<=281474976710544:=by omega
    rwa [Int.natCast_mul]at h2
   have h:=Conc.run_makeChan (P:=P) (w:=w) ht hi k m.toNat (by omega) eo
   rw[EJ]at h
   simp only[execOp,ho,dz hr,Sem.run_bind,h,Result.andThen_ok,Sem.run_pure]
  ·cases hn
 ·cases hn
theorem y6 {x:AV} {u:Value} {i:Id} {r:Row} (S:gi P hs D ι g w) (hr:dj P w D ι x u) (hx:x=.qZ i) (hg:g i=some r):∃B c,u=.chan (some B.b)/\ι i=some B/\B.k=some (.chan c)/\r.sz=qj+c/\Hd P w D ι B c r:=by
 subst hx
 obtain⟨B,c,rfl,hB,hk⟩:=Lv hr
 obtain⟨B',dJ,R,_⟩:=S.row i r hg
 rw[hB]at dJ;injection dJ with dJ;subst dJ
 exact⟨B,c,rfl,hB,hk,R.chan c hk⟩
theorem Ox {t e:TypeId} {dir:ChanDir} {x:Operand} {x':O} (S:gi P hs D ι g w) (E:cC P w D ι env a) (ho:o.op=.call {callee:=.builtin .len,args:= #[x],argTypes:= #[t]}) (ht:P.underlying t=some (.chan dir e)) (hx:cO P x=some x') (hv:cQ g (da env x')=some v):om P a o w D ι v:=by
 have hr:=dn E hx
 unfold cQ at hv
 split at hv
 ·rename_i i he
  simp only[Option.map_eq_some_iff]at hv
  obtain⟨r,hg,rfl⟩:=hv
  obtain⟨B,c,hu,hB,hk,fe,buf,s,q,hb,JT,_⟩:=y6 S hr he hg
  have fu:(getObj B.b).run P w=.ok (.chan c buf false s q false) w:=by simp[getObj,Sem.run,hb]
  refine⟨.int .i64 (buf.size:Int),?_,by rw[JT];exact .eU _ _ (.int _ _)⟩
  simp only[execOp,ho,resolve,Sem.run_bind,Sem.run_pure,Result.andThen_ok,invoke,builtin,Array.map,hu]
  simp[Builtin.len_,run_underlying ht,goInt,hu,fu]
 ·cases hv
end
end Go.Proofs.YtgoelphibofcmaaGreat.V

namespace Go.Proofs.YtgoelphibofcmaaGreat.V
open Go.RowKit
variable {P:Program} {w w':World} {D D':Nat->Prop} {ι ι':Names}
def Kc (P:Program) (a:Act) (o:Oper) (w:World) (D:Nat->Prop) (ι:Names) (id:Id) (v:AV):Option Row->Prop
 |none=>om P a o w D ι v
 |some r=>Mk P a o w D ι id v r∨MkM P a o w id v r∨MkC P a o w id v r
section
variable {g:Rows} {hs:Nat} {env:Env} {a:Act} {o:Oper} {id:Id} {v:AV}
theorem lj {x:Option AV} {mr:Option Row} (h:x.map (·,(none:Option Row))=some (v,mr)) (H:x=some v->om P a o w D ι v):Kc P a o w D ι id v mr:=by
 cases x with
 |none=>simp at h
 |some y=>simp at h;obtain⟨rfl,rfl⟩:=h;exact H rfl
theorem QN {neg:Bool} {t yt:TypeId} {x y:Operand} {vo:gp} {mr:Option Row} (ho:o.op=.binOp (if neg then .neq else .eql) t x y yt) (hc:sr P neg t x y=some vo) (hq:eJ vo (da env) g id=some (v,mr)) (E:cC P w D ι env a):Kc P a o w D ι id v mr:=by
 unfold sr at hc
 split at hc
 ·split at hc
  ·rename_i e ht
   simp only[Option.map_eq_some_iff]at hc
   obtain⟨x',hx,rfl⟩:=hc
   simp only[eJ,dR,Bool.false_eq_true,if_false,Option.map_eq_some_iff,Prod.mk.injEq]at hq
   obtain⟨b,hb,rfl,rfl⟩:=hq
   exact Ot E ho ht hx hb
  ·simp at hc
 ·split at hc
  ·rename_i ht
   simp only[Option.map_eq_some_iff]at hc
   obtain⟨x',hx,rfl⟩:=hc
   simp only[eJ,dR,if_true,Option.map_eq_some_iff,Prod.mk.injEq]at hq
   obtain⟨b,hb,rfl,rfl⟩:=hq
   exact Oq E ho ht hx hb
  ·simp at hc
 ·split at hc
  ·rename_i ht
   simp only[Option.map_eq_some_iff]at hc
   obtain⟨x',hx,rfl⟩:=hc
   simp only[eJ,Option.map_eq_some_iff,Prod.mk.injEq]at hq
   obtain⟨b,hb,rfl,rfl⟩:=hq
   exact Q0 E ho ht hx hb
  ·simp at hc
 ·split at hc
  ·rename_i s hs
   simp only[Option.bind_eq_bind,Option.bind_eq_some_iff,Option.pure_def,Option.some.injEq]at hc
   obtain⟨x',hx,y',hy,rfl⟩:=hc
   simp only[eJ,Option.map_eq_some_iff,Prod.mk.injEq]at hq
   obtain⟨b,hb,rfl,rfl⟩:=hq
   have Bj:fo P t=some s:=by
    unfold Sg at hs
    split at hs
    ·rename_i s' h;simp at hs;subst hs;exact h
    ·split at hs
     ·split at hs
      ·simp at hs
      ·simp at hs
     ·simp at hs
   exact Q1 E ho Bj hx hy hb
  ·rename_i ts hs
   simp only[Option.bind_eq_bind,Option.bind_eq_some_iff,Option.pure_def,Option.some.injEq]at hc
   obtain⟨x',hx,y',hy,rfl⟩:=hc
   simp only[eJ]at hq
   split at hq
   ·rename_i xs ys h1 h2
    simp only[Option.map_eq_some_iff,Prod.mk.injEq]at hq
    obtain⟨b,hb,rfl,rfl⟩:=hq
    unfold Sg at hs
    split at hs
    ·simp at hs
    ·split at hs
     ·rename_i fs rm
      split at hs
      ·rename_i hg
       simp only[Option.map_eq_some_iff,R4.ag.injEq]at hs
       obtain⟨Mx,xz,rfl⟩:=hs
       simp only[Bool.and_eq_true,Bool.not_eq_true']at hg
       exact QZ E ho rm hg.1 hg.2 xz hx hy h1 h2 hb
      ·simp at hs
     ·simp at hs
   ·simp at hq
  ·simp at hc
theorem N7 {c:Call} {vo:gp} {mr:Option Row} (ho:o.op=.call c) (hc:nw P c=some vo) (hq:eJ vo (da env) g id=some (v,mr)) (S:gi P hs D ι g w) (E:cC P w D ι env a):Kc P a o w D ι id v mr:=by
 unfold nw at hc
 split at hc
 ·rename_i kf
  split at hc
  ·rename_i x t h1 h2
   have hce:c={callee:=.builtin .len,args:= #[x],argTypes:= #[t]}:=by
    obtain⟨a,b,c⟩:=c
    simp only at h1 h2 kf
    subst kf
    congr
    ·exact Array.ext' h1
    ·exact Array.ext' h2
   rw[hce]at ho
   split at hc
   ·rename_i e ht
    simp only[Option.map_eq_some_iff]at hc
    obtain⟨x',hx,rfl⟩:=hc
    simp only[eJ,Option.map_eq_some_iff,Prod.mk.injEq]at hq
    obtain⟨n,hn,rfl,rfl⟩:=hq
    exact Q2 E ho ht hx hn
   ·rename_i ht
    simp only[Option.map_eq_some_iff]at hc
    obtain⟨x',hx,rfl⟩:=hc
    exact lj hq fun h=>Oy E ho ht hx h
   ·split at hc
    ·rename_i m z x' hm hx
     simp only[Option.some.injEq]at hc
     subst hc
     obtain⟨rfl,h⟩:=OD (id:=id) S E ho hm hx hq
     exact h
    ·cases hc
   ·rename_i ht
    simp only[Option.map_eq_some_iff]at hc
    obtain⟨x',hx,rfl⟩:=hc
    exact lj hq fun h=>Ox S E ho ht hx h
   ·simp at hc
  ·simp at hc
 ·split at hc
  ·split at hc
   ·split at hc
    ·split at hc
     ·simp only[Option.bind_eq_bind,Option.bind_eq_some_iff,Option.pure_def,Option.some.injEq]at hc
      obtain⟨x',hx,y',hy,rfl⟩:=hc
      simp[eJ]at hq
     ·simp at hc
    ·simp at hc
   ·simp at hc
  ·simp at hc
 ·split at hc
  ·split at hc
   ·split at hc
    ·simp only[Option.map_eq_some_iff]at hc
     obtain⟨x',hx,rfl⟩:=hc
     simp[eJ]at hq
    ·simp at hc
   ·simp at hc
  ·simp at hc
 ·split at hc
  ·simp only[Option.map_eq_some_iff]at hc
   obtain⟨x',hx,rfl⟩:=hc
   simp[eJ]at hq
  ·simp at hc
 ·simp only[Option.map_eq_some_iff]at hc
  obtain⟨x',hx,rfl⟩:=hc
  simp[eJ]at hq
 ·split at hc
  ·split at hc
   ·simp only[Option.some.injEq]at hc
    subst hc
    simp[eJ]at hq
   ·cases hc
  ·cases hc
 ·split at hc
  ·split at hc
   ·split at hc
    ·simp only[Option.bind_eq_bind,Option.bind_eq_some_iff,Option.pure_def,Option.some.injEq]at hc
     obtain⟨x',hx,y',hy,rfl⟩:=hc
     simp[eJ]at hq
    ·simp at hc
   ·simp at hc
  ·simp at hc
 ·simp at hc
theorem yM {vo:gp} {mr:Option Row} (hc:qK P o.op=some vo) (hq:eJ vo (da env) g id=some (v,mr)) (S:gi P hs D ι g w) (E:cC P w D ι env a):Kc P a o w D ι id v mr:=by
 unfold qK at hc
 split at hc
 ·rename_i ho
  simp only[Option.map_eq_some_iff]at hc
  obtain⟨x',hx,rfl⟩:=hc
  simp[eJ]at hq;obtain⟨rfl,rfl⟩:=hq
  exact Mz E (.inl ho) hx
 ·rename_i ho
  simp only[Option.map_eq_some_iff]at hc
  obtain⟨x',hx,rfl⟩:=hc
  simp[eJ]at hq;obtain⟨rfl,rfl⟩:=hq
  exact Mz E (.inr ho) hx
 ·rename_i ho
  simp only[Option.bind_eq_bind,Option.bind_eq_some_iff,Option.pure_def,Option.some.injEq]at hc
  obtain⟨c',h1,x',h2,y',h3,rfl⟩:=hc
  exact lj hq fun h=>OE E ho h1 h2 h3 h
 ·rename_i ho
  simp only[Option.map_eq_some_iff]at hc
  obtain⟨z,hz,rfl⟩:=hc
  simp only[eJ,Option.some.injEq,Prod.mk.injEq]at hq
  obtain⟨rfl,rfl⟩:=hq
  exact .inl (QG ho hz)
 ·rename_i ho
  simp only[Option.map_eq_some_iff]at hc
  obtain⟨x',hx,rfl⟩:=hc
  simp only[eJ,Option.map_eq_some_iff,Prod.mk.injEq]at hq
  obtain⟨cs,du,rfl,rfl⟩:=hq
  exact .inl (QE E ho hx du)
 ·rename_i ho
  simp only[Option.bind_eq_bind,Option.bind_eq_some_iff,Option.pure_def,Option.some.injEq]at hc
  obtain⟨ag,h1,n,h2,x',h3,rfl⟩:=hc
  exact lj hq fun h=>Oz S E ho h1 h2 h3 h
 ·rename_i ho
  simp only[Option.bind_eq_bind,Option.bind_eq_some_iff,Option.pure_def,Option.some.injEq]at hc
  obtain⟨n,h2,x',h3,y',h4,rfl⟩:=hc
  simp[eJ]at hq
 ·rename_i ho
  simp only[Option.map_eq_some_iff]at hc
  obtain⟨x',hx,rfl⟩:=hc
  exact lj hq fun h=>QY E ho hx h
 ·rename_i op t x y yt ho
  unfold uT at hc
  split at hc
  ·exact QN (neg:=false) ho hc hq E
  ·exact QN (neg:=true) ho hc hq E
  ·simp only[Option.bind_eq_bind,Option.bind_eq_some_iff,Option.pure_def,Option.some.injEq]at hc
   obtain⟨x',h3,y',h4,rfl⟩:=hc
   exact lj hq fun h=>Q5 (left:=true) E ho h3 h4 h
  ·simp only[Option.bind_eq_bind,Option.bind_eq_some_iff,Option.pure_def,Option.some.injEq]at hc
   obtain⟨x',h3,y',h4,rfl⟩:=hc
   exact lj hq fun h=>Q5 (left:=false) E ho h3 h4 h
  ·rename_i n1 n2 n3 n4
   split at hc
   ·simp only[Option.bind_eq_bind,Option.bind_eq_some_iff,Option.pure_def,Option.some.injEq]at hc
    obtain⟨x',h3,y',h4,rfl⟩:=hc
    exact lj hq fun h=>QX E ho n1 n2 h3 h4 h
   ·simp only[Option.bind_eq_bind,Option.bind_eq_some_iff,Option.pure_def,Option.some.injEq]at hc
    obtain⟨x',h3,y',h4,rfl⟩:=hc
    exact lj hq fun h=>On E ho n1 n2 h3 h4 h
   ·simp at hc
 ·rename_i ho
  simp only[Option.map_eq_some_iff]at hc
  obtain⟨x',hx,rfl⟩:=hc
  exact lj hq fun h=>Q4 E ho hx h
 ·rename_i ho
  simp only[Option.map_eq_some_iff]at hc
  obtain⟨x',hx,rfl⟩:=hc
  exact lj hq fun h=>Q3 E ho hx h
 ·rename_i ho
  split at hc
  ·rename_i q k h1 h2
   simp only[Option.map_eq_some_iff]at hc
   obtain⟨x',hx,rfl⟩:=hc
   exact lj hq fun h=>Oo E ho h1 h2 hx h
  ·rename_i h1 h2
   simp only[Option.map_eq_some_iff]at hc
   obtain⟨x',hx,rfl⟩:=hc
   exact lj hq fun h=>by
    have hr:=dn E hx
    unfold bL at h
    split at h
    ·rename_i s hb
     simp at h;subst h
     rw[hb]at hr
     exact⟨.string s,by simp only[execOp,ho,fC hr,convert,Sem.run_bind,run_underlying h1,run_underlying h2,Result.andThen_ok,Sem.run_pure],.eU _ _ (.str _)⟩
    ·simp at h
  ·simp at hc
 ·rename_i ho
  split at hc
  ·rename_i e ht
   simp only[Option.bind_eq_bind,Option.bind_eq_some_iff,Option.pure_def,Option.some.injEq]at hc
   obtain⟨n,h1,x',h2,lo,h3,hi,h4,rfl⟩:=hc
   exact lj hq fun h=>LR S E ho ht h1 h2 h3 h4 h
  ·rename_i ht
   simp only[Option.bind_eq_bind,Option.bind_eq_some_iff,Option.pure_def,Option.some.injEq]at hc
   obtain⟨x',h2,lo,h3,hi,h4,rfl⟩:=hc
   exact lj hq fun h=>JP E ho ht h2 h3 h4 h
  ·simp at hc
 ·rename_i ho
  split at hc
  ·rename_i fs rm
   split at hc
   ·rename_i f hf
    split at hc
    ·rename_i m hm
     simp only[Option.map_eq_some_iff]at hc
     obtain⟨x',hx,rfl⟩:=hc
     exact lj hq fun h=>LO E ho rm hf hm hx h
    ·simp at hc
   ·simp at hc
  ·simp at hc
 ·rename_i ho
  split at hc
  ·rename_i fs rm
   split at hc
   ·rename_i f hf
    simp only[Option.bind_eq_bind,Option.bind_eq_some_iff,Option.pure_def,Option.some.injEq]at hc
    obtain⟨ag,h1,n,h2,x',h3,rfl⟩:=hc
    exact lj hq fun h=>LP E ho rm hf h1 h2 h3 h
   ·simp at hc
  ·simp at hc
 ·rename_i ho
  split at hc
  ·rename_i e ht
   split at hc
   ·rename_i m hm
    simp only[Option.bind_eq_bind,Option.bind_eq_some_iff,Option.pure_def,Option.some.injEq]at hc
    obtain⟨x',h1,i',h2,rfl⟩:=hc
    exact lj hq fun h=>LQ S E ho ht hm h1 h2 h
   ·simp at hc
  ·rename_i len e ht
   split at hc
   ·rename_i m hm
    simp only[Option.bind_eq_bind,Option.bind_eq_some_iff,Option.pure_def,Option.some.injEq]at hc
    obtain⟨x',h1,i',h2,rfl⟩:=hc
    exact lj hq fun h=>Ou E ho ht hm h1 h2 h
   ·simp at hc
  ·simp at hc
 ·rename_i ho
  split at hc
  ·rename_i ht
   simp only[Option.bind_eq_bind,Option.bind_eq_some_iff,Option.pure_def,Option.some.injEq]at hc
   obtain⟨x',h1,i',h2,rfl⟩:=hc
   exact lj hq fun h=>Ow E ho ht h1 h2 h
  ·rename_i len e ht
   simp only[Option.bind_eq_bind,Option.bind_eq_some_iff,Option.pure_def,Option.some.injEq]at hc
   obtain⟨ag,h0,n,h1,x',h2,i',h3,rfl⟩:=hc
   exact lj hq fun h=>Ov E ho ht h0 h1 h2 h3 h
  ·simp at hc
 ·rename_i ho
  simp only[Option.map_eq_some_iff]at hc
  obtain⟨x',hx,rfl⟩:=hc
  exact lj hq fun h=>GY E ho hx h
 ·rename_i ho
  split at hc
  ·rename_i fs rm
   split at hc
   ·rename_i z l hz hl
    split at hc
    ·rename_i ef
     simp only[Option.map_eq_some_iff]at hc
     obtain⟨q,KT,rfl⟩:=hc
     simp only[eJ,Option.map_eq_some_iff,Prod.mk.injEq]at hq
     obtain⟨cs,du,rfl,rfl⟩:=hq
     exact LN E ho rm hz hl (fun f hf=>by
      rw[Array.all_eq_true_iff_forall_mem]at ef
      exact ef f (Array.mem_toList_iff.1 hf)) KT du
    ·simp at hc
   ·simp at hc
  ·rename_i len e ht
   split at hc
   ·rename_i z l n hz hl hn
    simp only[Option.some.injEq]at hc
    subst hc
    simp only[eJ,Option.map_eq_some_iff,Prod.mk.injEq]at hq
    obtain⟨cs,du,rfl,rfl⟩:=hq
    exact JO E ho ht hz hl hn du
   ·simp at hc
  ·simp at hc
 ·rename_i ho
  split at hc
  ·rename_i e ht
   split at hc
   ·rename_i sz z l h1 h2 h3
    split at hc
    ·rename_i hh
     simp only[Option.some.injEq]at hc
     subst hc
     simp only[eJ,Option.map_eq_some_iff,Prod.mk.injEq]at hq
     obtain⟨rs,yh,rfl,rfl⟩:=hq
     exact .inl (IL E ho ht h1 h2 h3 hh.1 hh.2 (by rw[List.map_map]at yh;exact yh))
    ·simp at hc
   ·simp at hc
  ·simp at hc
 ·rename_i ho
  split at hc
  ·rename_i hh
   simp only[Option.map_eq_some_iff]at hc
   obtain⟨l,hl,rfl⟩:=hc
   simp[eJ]at hq;obtain⟨rfl,rfl⟩:=hq
   exact OB E ho hh.1 hh.2 hl
  ·split at hc
   ·rename_i hh
    simp only[Option.map_eq_some_iff]at hc
    obtain⟨l,hl,rfl⟩:=hc
    simp[eJ]at hq;obtain⟨rfl,rfl⟩:=hq
    exact OC E ho hh.1 hh.2 hl
   ·simp at hc
 ·rename_i ho
  split at hc
  ·rename_i e ht
   split at hc
   ·rename_i m z i h1 h2 h3
    split at hc
    ·rename_i hb
     simp only[Option.bind_eq_bind,Option.bind_eq_some_iff,Option.pure_def,Option.some.injEq]at hc
     obtain⟨l',h4,c',h5,rfl⟩:=hc
     simp only[eJ,Option.map_eq_some_iff,Prod.mk.injEq]at hq
     obtain⟨⟨n,r⟩,hr,rfl,rfl⟩:=hq
     exact .inl (Gf E ho ht h1 h2 h3 hb h4 h5 hr)
    ·simp at hc
   ·simp at hc
  ·simp at hc
 ·rename_i ho
  exact N7 ho hc hq S E
 ·rename_i ho
  split at hc
  ·rename_i dir e ht
   split at hc
   ·rename_i i hi
    split at hc
    ·rename_i hb
     simp only[Option.map_eq_some_iff]at hc
     obtain⟨x',hx,rfl⟩:=hc
     simp only[eJ,Option.map_eq_some_iff,Prod.mk.injEq]at hq
     obtain⟨n,hn,rfl,rfl⟩:=hq
     exact .inr (.inr (NZ E ho ht hi hb hx hn))
    ·cases hc
   ·cases hc
  ·cases hc
 ·simp only[Option.bind_eq_bind,Option.bind_eq_some_iff,Option.pure_def,Option.some.injEq]at hc
  obtain⟨x',_,y',_,rfl⟩:=hc
  simp[eJ]at hq
 ·split at hc
  ·split at hc
   ·simp only[Option.map_eq_some_iff]at hc
    obtain⟨x',_,rfl⟩:=hc
    simp[eJ]at hq
   ·cases hc
  ·cases hc
 ·rename_i ho
  split at hc
  ·rename_i m z hm
   simp only[Option.some.injEq]at hc
   subst hc
   simp only[eJ,List.map_nil,bt,Option.some.injEq,Prod.mk.injEq]at hq
   obtain⟨rfl,rfl⟩:=hq
   exact .inr (.inl (QF ho))
  ·cases hc
 ·rename_i ho
  split at hc
  ·rename_i m z x' k' hm hx hk
   simp only[Option.some.injEq]at hc
   subst hc
   obtain⟨rfl,h⟩:=OA (id:=id) S E ho hm hx hk hq
   exact h
  ·cases hc
 ·split at hc
  ·simp only[Option.some.injEq]at hc
   subst hc
   simp[eJ]at hq
  ·cases hc
 ·split at hc
  ·simp only[Option.some.injEq]at hc
   subst hc
   simp[eJ]at hq
  ·cases hc
 ·simp only[Option.some.injEq]at hc
  subst hc
  simp[eJ]at hq
 ·simp only[Option.some.injEq]at hc
  subst hc
  simp[eJ]at hq
 ·simp at hc
end
end Go.Proofs.YtgoelphibofcmaaGreat.V

namespace Go.Proofs.YtgoelphibofcmaaGreat.V
open Go.RowKit
variable {P:Program} {w w':World} {D D':Nat->Prop} {ι ι':Names}
def kc (ι:Names) (id:Id) (B:r8):Names:=fun i=>if i=id then some B else ι i
theorem ez (ι:Names) (id:Id) (B:r8):kc ι id B id=some B:=if_pos rfl
theorem fx {ι:Names} {id:Id} {B:r8} (h:ι id=none):∀i B',ι i=some B'->kc ι id B i=some B':=fun i B' hi=>by
 have:i≠id:=by rintro rfl;rw[h]at hi;cases hi
 rw[kc,if_neg this];exact hi
theorem gh {ι:Names} {id i:Id} {B:r8} (h:i≠id):kc ι id B i=ι i:=if_neg h
section
variable {g:Rows} {hs:Nat} {env:Env} {a:Act} {o:Oper} {id:Id} {v:AV}
theorem kr.frame {B:r8} {r:Row} (h:kr P w D ι B r) (hb:w'.heap[B.b]? =w.heap[B.b]?) (hr:∀a v,dj P w D ι a v->dj P w' D' ι' a v):kr P w' D' ι' B r:=
 ⟨h.sz,by obtain⟨c,T,h1,h2⟩:=h.Cm;exact⟨c,T,hb.trans h1,h2⟩,h.fits,h.len,h.flat,fun i j cs a hi hj=>by
  obtain⟨v,h1,h2⟩:=h.at_ i j cs a hi hj
  exact⟨v,(World.cell?_of_block (a:=⟨B.b,i*r.sz+j,none⟩) hb).trans h1,hr _ _ h2⟩⟩
theorem ia.frame {B:r8} {r:Row} (h:ia P w D ι B r) (hb:w'.heap[B.b]? =w.heap[B.b]?) (hr:∀a v,dj P w D ι a v->dj P w' D' ι' a v):ia P w' D' ι' B r:=
 ⟨h.sz,h.flat,fun hk=>(h.row hk).frame hb hr,fun m hm=>by
  obtain⟨h1,es,c,h2,h3,h5,h4⟩:=h.map m hm
  refine⟨h1,es,c,hb.trans h2,h3,h5,fun i cs hi=>?_⟩
  obtain⟨e,kv,vv,q1,q2,q3,q4,q5⟩:=h4 i cs hi
  exact⟨e,kv,vv,q1,q2,q3,hr _ _ q4,hr _ _ q5⟩,fun c hc=>by
  obtain⟨h1,buf,s,q,h2,h3,h4⟩:=h.chan c hc
  refine⟨h1,buf,s,q,hb.trans h2,h3,fun i cs hi=>?_⟩
  obtain⟨a,u,q1,q2,q3⟩:=h4 i cs hi
  exact⟨a,u,q1,q2,hr _ _ q3⟩⟩
theorem gi.kill (S:gi P hs D ι g w) (i:Id):gi P hs D ι (bV g i) w:=by
 refine⟨S.lo,S.dead,fun id r h=>?_,fun id kF r r' B B' h h' hw hB dJ hb=>?_⟩
 ·unfold bV at h;split at h
  ·cases h
  ·exact S.row id r h
 ·unfold bV at h h'
  split at h
  ·cases h
  ·split at h'
   ·cases h'
   ·exact S.inj id kF r r' B B' h h' hw hB dJ hb
theorem gi.sub {g':Rows} (S:gi P hs D ι g w) (h:∀id r,g' id=some r->g id=some r):gi P hs D ι g' w:=
 ⟨S.lo,S.dead,fun id r hr=>S.row id r (h id r hr),fun id kF r r' B B' h1 h2=>S.inj id kF r r' B B' (h _ _ h1) (h _ _ h2)⟩
theorem Aa {hid:List Nat} {n:Nat} {g:Rows}:∀id r,fE hid n g id=some r->g id=some r:=fun id r h=>by
 cases hid with
 |nil=>exact h
 |cons a l=>
  have e:fE (a::l) n g id=if (a::l).contains id.site=true/\id.cq=n then none else g id:=rfl
  rw[e]at h
  by_cases hc:(a::l).contains id.site=true/\id.cq=n
  ·rw[if_pos hc]at h;cases h
  ·rw[if_neg hc]at h;exact h
theorem gi.stay (S:gi P hs D ι g w) (hb:∀b,b<w.heap.size->w'.heap[b]? =w.heap[b]?) (hz:w.heap.size<=w'.heap.size) (hD:∀b,D b->D' b) (hD':∀b,D' b->b<w'.heap.size) (kE:∀b,D' b->D b∨w.heap.size<=b) (hι:∀id B,ι id=some B->ι' id=some B):gi P hs D' ι' g w':=by
 have hr:∀a v,dj P w D ι a v->dj P w' D' ι' a v:=fun a v h=>h.frame (fun b hd=>hb b (S.dead b hd)) hD hι
 have lt:∀{id r B},g id=some r->ι id=some B->B.b<w.heap.size:=fun {id r B} h hB=>by
  obtain⟨B',dJ,R,_⟩:=S.row id r h
  rw[hB]at dJ;injection dJ with dJ;subst dJ
  exact R.lt
 refine⟨Nat.le_trans S.lo hz,hD',fun id r h=>?_,fun id kF r r' B B' h h' hw hB dJ he=>?_⟩
 ·obtain⟨B,hB,R,h1,h2⟩:=S.row id r h
  exact⟨B,hι _ _ hB,R.frame (hb _ (lt h hB)) hr,h1,fun hw hd=>by
   rcases kE _ hd with hd|hd
   ·exact h2 hw hd
   ·have:=lt h hB;omega⟩
 ·obtain⟨C,hC,_⟩:=S.row id r h
  obtain⟨C',zl,_⟩:=S.row kF r' h'
  have e1:=hι _ _ hC
  have e2:=hι _ _ zl
  rw[hB]at e1;injection e1 with e1;subst e1
  rw[dJ]at e2;injection e2 with e2;subst e2
  exact S.inj id kF r r' _ _ h h' hw hC zl he
theorem Step.stay (S:gi P hs D ι g w) (hb:∀b,b<w.heap.size->w'.heap[b]? =w.heap[b]?) (hz:w.heap.size<=w'.heap.size) (e1:w'.os=w.os) (e2:w'.tape=w.tape) (e3:w'.output=w.output) (hD:∀b,D b->D' b) (kE:∀b,D' b->D b∨w.heap.size<=b) (hι:∀id B,ι id=some B->ι' id=some B):Step hs D ι w D' ι' w':=
 ⟨⟨e1,e2,e3,hz,fun k hk=>hb k (Nat.lt_of_lt_of_le hk S.lo)⟩,fun b hd=>hb b (S.dead b hd),hD,hι,fun b h=>(kE b h).imp_right (Nat.le_trans S.lo)⟩
theorem gi.alloc (S:gi P hs D ι g w) {cells:Array Value} {T:TypeId} {r:Row} (hh:w'.heap=w.heap.push (.cells cells T (0,0))) (hn:ι id=none) (hw:r.w=true) (h1:r.rows.length*r.sz<=cells.size) (h2:∀cs∈r.rows,cs.length=r.sz) (h3:∀cs∈r.rows,∀a∈cs,a.cell=true)
  (h4:∀i j cs a,r.rows[i]? =some cs->cs[j]? =some a->∃x,cells[i*r.sz+j]? =some x/\dj P w D ι a x):gi P hs D (kc ι id ⟨w.heap.size,r.sz,cells.size,none⟩) (bK g id r) w':=by
 have hb:∀b,b<w.heap.size->w'.heap[b]? =w.heap[b]? :=fun b eo=>by rw[hh,Array.getElem?_push,if_neg (by omega)]
 have hz:w.heap.size<=w'.heap.size:=by rw[hh];simp
 have S':=S.stay (D':=D) (ι':=kc ι id ⟨w.heap.size,r.sz,cells.size,none⟩) hb hz (fun _ h=>h) (fun b hd=>Nat.lt_of_lt_of_le (S.dead b hd) hz) (fun _ h=>.inl h) (fx hn)
 have hr:∀a v,dj P w D ι a v->dj P w' D (kc ι id ⟨w.heap.size,r.sz,cells.size,none⟩) a v:=fun a v h=>h.frame (fun b hd=>hb b (S.dead b hd)) (fun _ h=>h) (fx hn)
 have kE:w'.heap[w.heap.size]? =some (.cells cells T (0,0)):=by rw[hh];simp
 have gone:g id=none:=by
  cases hg:g id with
  |none=>rfl
  |some q=>
   obtain⟨B,hB,_⟩:=S.row id q hg
   rw[hn]at hB;cases hB
 have lt:∀{i q B},g i=some q->ι i=some B->B.b<w.heap.size:=fun {i q B} h hB=>by
  obtain⟨B',dJ,R,_⟩:=S.row i q h
  rw[hB]at dJ;injection dJ with dJ;subst dJ
  exact R.lt
 refine⟨S'.lo,S'.dead,fun i q h=>?_,fun i i' q q' B B' h h' Qk hB dJ he=>?_⟩
 ·unfold bK at h
  split at h
  ·rename_i e
   subst e
   injection h with h;subst h
   refine⟨_,ez _ _ _,kr.obj ⟨rfl,⟨cells,T,kE,rfl⟩,h1,h2,h3,fun k j cs a hk hj=>?_⟩ rfl,fun _=>S.lo,fun _ hd=>?_⟩
   ·obtain⟨x,hx,hrx⟩:=h4 k j cs a hk hj
    exact⟨x,by simp[World.cell?,kE,hx],hr _ _ hrx⟩
   ·have:=S.dead _ hd;simp at this
  ·exact S'.row i q h
 ·unfold bK at h h'
  split at h
  ·rename_i e
   split at h'
   ·rename_i e';exact e.trans e'.symm
   ·exfalso
    rename_i e'
    subst e
    rw[ez]at hB;injection hB with hB;subst hB
    rw[gh e']at dJ
    have:=lt h' dJ
    simp at he;omega
  ·rename_i e
   split at h'
   ·exfalso
    rename_i e'
    subst e'
    rw[ez]at dJ;injection dJ with dJ;subst dJ
    rw[gh e]at hB
    have:=lt h hB
    simp at he;omega
   ·exact S'.inj i i' q q' B B' h h' Qk hB dJ he
theorem gi.put (S:gi P hs D ι g w) {r r':Row} {B:r8} {cur cur':Array Value} {T:TypeId} (hid:g id=some r) (hw:r.w=true) (hB:ι id=some B) (hblk:w.heap[B.b]? =some (.cells cur T (0,0))) (fe:cur'.size=cur.size)
  (h0:r'.w=true) (h1:r'.sz=r.sz) (h2:r'.rows.length*r'.sz<=B.C) (h3:∀cs∈r'.rows,cs.length=r'.sz) (h4:∀cs∈r'.rows,∀a∈cs,a.cell=true)
  (h5:∀i j cs a,r'.rows[i]? =some cs->cs[j]? =some a->∃v,cur'[i*r.sz+j]? =some v/\dj P w D ι a v):gi P hs D ι (bK g id r') (w.setRow B.b cur')/\Step hs D ι w D ι (w.setRow B.b cur'):=by
 obtain⟨B0,A9,RO,kh,mm⟩:=S.row id r hid
 rw[hB]at A9;injection A9 with A9;subst A9
 have w8:=RO.Lk hblk
 have R:=RO.row w8
 have hd:∀b,D b->(w.setRow B.b cur').heap[b]? =w.heap[b]? :=fun b hb=>setRow_other w B.b b cur' (by rintro rfl;exact mm hw hb)
 have hr:∀a v,dj P w D ι a v->dj P (w.setRow B.b cur') D ι a v:=fun a v h=>h.frame hd (fun _ h=>h) (fun _ _ h=>h)
 have hC:cur.size=B.C:=by
  obtain⟨c,T',h1,h2⟩:=R.Cm
  rw[hblk]at h1;injection h1 with h1;injection h1 with h1 M6;subst h1;exact h2
 refine⟨⟨by simpa using S.lo,fun b hb=>by simpa using S.dead b hb,fun i q h=>?_,fun i i' q q' C C' h h' Qk hC zl he=>?_⟩,⟨⟨by simp,by simp,by simp,by simp,fun k hk=>setRow_other w B.b k cur' (by have:=kh hw;omega)⟩,hd,fun _ h=>h,fun _ _ h=>h,fun _ h=>.inl h⟩⟩
 ·unfold bK at h
  split at h
  ·rename_i e
   subst e
   injection h with h;subst h
   refine⟨B,hB,kr.obj ⟨by rw[h1];exact R.sz,⟨cur',T,setRow_heap w B.b cur cur' T _ hblk,by rw[fe];exact hC⟩,h2,h3,h4,fun k j cs a hk hj=>?_⟩ w8,fun _=>kh hw,fun _=>mm hw⟩
   obtain⟨v,hv,lv⟩:=h5 k j cs a hk hj
   exact⟨v,by rw[cell_setRow_same w B.b _ cur cur' T _ hblk,h1];exact hv,hr _ _ lv⟩
  ·rename_i e
   obtain⟨C,hC,RC,k1,k2⟩:=S.row i q h
   refine⟨C,hC,RC.frame (setRow_other w B.b C.b cur' (fun L6=>e ?_)) hr,k1,k2⟩
   exact(S.inj id i r q B C hid h hw hB hC L6.symm).symm
 ·unfold bK at h h'
  have get:∀j p,(if j=id then some r' else g j)=some p->∃p0,g j=some p0/\(p.w=true->p0.w=true):=fun j p hp=>by
   split at hp
   ·rename_i e;subst e;injection hp with hp;subst hp;exact⟨r,hid,fun _=>hw⟩
   ·exact⟨p,hp,fun h=>h⟩
  obtain⟨p,hp,O1⟩:=get _ _ h
  obtain⟨p',ND,_⟩:=get _ _ h'
  exact S.inj i i' p p' C C' hp ND (O1 Qk) hC zl he
theorem gi.rename (S:gi P hs D ι g w) {i:Id} {r:Row} {B:r8} (hi:g i=some r) (hw:r.w=true) (hB:ι i=some B) (hn:ι id=none):gi P hs D (kc ι id B) (bK (bV g i) id r) w:=by
 have S':=S.stay (w':=w) (D':=D) (ι':=kc ι id B) (fun _ _=>rfl) (Nat.le_refl _) (fun _ h=>h) S.dead (fun _ h=>.inl h) (fx hn)
 have gM:i≠id:=by rintro rfl;rw[hn]at hB;cases hB
 obtain⟨B1,Ak,R,k1,k2⟩:=S'.row i r hi
 rw[gh gM,hB]at Ak;injection Ak with Ak;subst Ak
 have get:∀j p,bK (bV g i) id r j=some p->(j=id/\p=r)∨(j≠id/\j≠i/\g j=some p):=fun j p hp=>by
  unfold bK bV at hp
  split at hp
  ·rename_i e;injection hp with hp;exact .inl ⟨e,hp.symm⟩
  ·rename_i e
   split at hp
   ·cases hp
   ·rename_i e';exact .inr ⟨e,e',hp⟩
 refine⟨S.lo,S.dead,fun j p h=>?_,fun j j' p p' C C' h h' O1 hC zl he=>?_⟩
 ·rcases get j p h with⟨rfl,rfl⟩|⟨_,_,hp⟩
  ·exact⟨B,ez _ _ _,R,k1,k2⟩
  ·exact S'.row j p hp
 ·rcases get j p h with⟨rfl,rfl⟩|⟨q1,q2,hp⟩
  ·rcases get j' p' h' with⟨rfl,rfl⟩|⟨q1',q2',ND⟩
   ·rfl
   ·exfalso
    rw[ez]at hC;injection hC with hC;subst hC
    rw[gh q1']at zl
    exact q2' (S.inj i j' p p' B C' hi ND hw hB zl he).symm
  ·rcases get j' p' h' with⟨rfl,rfl⟩|⟨q1',q2',ND⟩
   ·exfalso
    rw[ez]at zl;injection zl with zl;subst zl
    rw[gh q1]at hC
    exact q2 (S.inj j i p p' C B hp hi O1 hC hB he)
   ·rw[gh q1]at hC
    rw[gh q1']at zl
    exact S.inj j j' p p' C C' hp ND O1 hC zl he
def Cx (P:Program) (hs:Nat) (a:Act) (o:Oper) (w:World) (D:Nat->Prop) (ι:Names) (id:Id) (v:AV) (g':Rows):Prop:=
 ∃u w' ι',((execOp a.eval o).run P w=.ok (.value u) w'∨(execOp a.eval o).run P w=.ok .skip w'/\u=undef)/\Step hs D ι w D ι' w'/\gi P hs D ι' g' w'/\dj P w' D ι' v u/\∀i,i≠id->ι' i=ι i
theorem BW {xs:List AV} {vs:Array Value} (h:eW P w D ι xs vs) (hf:∀a∈xs,a.cell=true):∀v∈vs.toList,v.oneCell'=true:=by
 intro v hv
 obtain⟨j,hj,rfl⟩:=List.getElem_of_mem hv
 have J0:j<xs.length:=by rw[<-h.1];simpa using hj
 obtain⟨u,hu,hr⟩:=h.2 j _ (List.getElem?_eq_getElem J0)
 have hc:=hr.AM (hf _ (List.getElem_mem J0))
 have:vs.toList[j]=u:=by
  have:vs.toList[j]? =some u:=by simpa using hu
  rw[List.getElem?_eq_getElem hj]at this;injection this
 rw[this]
 cases u<;>simp_all [Value.oneCell']
theorem jM {i j n m:Nat} (h:i<n) (hj:j<m):i*m+j<n*m:=by
 have:(i+1)*m<=n*m:=Nat.mul_le_mul_right _ h
 rw[Nat.add_mul,Nat.one_mul]at this;omega
theorem kr.cur {B:r8} {r:Row} (R:kr P w D ι B r):∃cur T,w.heap[B.b]? =some (.cells cur T (0,0))/\cur.size=B.C/\∀i j cs a,r.rows[i]? =some cs->cs[j]? =some a->∃v,cur[i*r.sz+j]? =some v/\dj P w D ι a v:=by
 obtain⟨cur,T,h1,h2⟩:=R.Cm
 refine⟨cur,T,h1,h2,fun i j cs a hi hj=>?_⟩
 obtain⟨v,hv,hr⟩:=R.at_ i j cs a hi hj
 exact⟨v,by simpa[World.cell?,h1]using hv,hr⟩
theorem Kr {t:TypeId} {n:Nat} {x y:Operand} {x' y':O} {g':Rows} (S:gi P hs D ι g w) (E:cC P w D ι env a) (ho:o.op=.store t x y) (hn:ep P t=some n) (hx:cO P x=some x') (hy:cO P y=some y')
  (hv:bH g n (da env y') (da env x')=some g'):Cx P hs a o w D ι id .undef g':=by
 have rx:=dn E hx
 have ry:=dn E hy
 unfold bH at hv
 split at hv
 ·rename_i i k off hp
  rw[hp]at rx
  simp only[Option.bind_eq_some_iff]at hv
  obtain⟨r,hg,cs,du,hv⟩:=hv
  split at hv
  ·rename_i hc
   obtain⟨c1,c2,c3,c4⟩:=hc
   simp at hv;subst hv
   obtain⟨B,he,hB,hk⟩:=jr rx
   obtain⟨B',dJ,R,kh,mm⟩:=S.row i r hg
   rw[hB]at dJ;injection dJ with dJ;subst dJ
   replace R:=R.row hk
   obtain⟨cur,T,hblk,hC,rj⟩:=R.cur
   have hL:=qG ry c3
   have h1:=BW hL (List.all_eq_true.1 c3)
   have J6:(a.eval y).cells.size=n:=by rw[hL.1,c2]
   have lO:=(List.getElem?_eq_some_iff.1 du).1
   have hlen:=R.len cs (List.mem_of_getElem? du)
   have hbound:k*r.sz+r.sz<=r.rows.length*r.sz:=by
    have:(k+1)*r.sz<=r.rows.length*r.sz:=Nat.mul_le_mul_right _ lO
    rwa [Nat.add_mul,Nat.one_mul]at this
   have hf:=R.fits
   have eC:=run_storeCells_at P B.b (k*B.sz+off) T (a.eval y).cells.toList 0 cur w hblk (by rw[R.sz];simp only[Array.length_toList];omega) h1
   simp only[Nat.add_zero,Array.length_toList]at eC
   have zt:=S.put (r':={r with rows:=r.rows.set k (cH cs off (da env y').cells)}) hg c1 hB hblk (cur':=(cur.toList.take (k*B.sz+off)++(a.eval y).cells.toList++cur.toList.drop (k*B.sz+off+(a.eval y).cells.size)).toArray)
    (by rw[R.sz];simp;omega) c1 rfl (by simpa using R.fits) (fun c SR=>by
     rcases List.mem_or_eq_of_mem_set SR with h|rfl
     ·exact R.len c h
     ·simp[cH];omega) (fun c SR b hb=>by
     rcases List.mem_or_eq_of_mem_set SR with h|rfl
     ·exact R.flat c h b hb
     ·unfold cH at hb
      rcases List.mem_append.1 hb with hb|hb
      ·rcases List.mem_append.1 hb with hb|hb
       ·exact R.flat cs (List.mem_of_getElem? du) b (List.mem_of_mem_take hb)
       ·exact List.all_eq_true.1 c3 b hb
      ·exact R.flat cs (List.mem_of_getElem? du) b (List.mem_of_mem_drop hb)) (fun i2 j c b Be hj=>by
     rw[R.sz]
     simp only[List.getElem?_toArray]
     by_cases uw:i2=k
     ·subst uw
      rw[List.getElem?_set_self lO]at Be
      injection Be with Be;subst Be
      unfold cH at hj
      by_cases hjo:j<off
      ·rw[List.append_assoc,List.getElem?_append_left (by simp;omega),List.getElem?_take,if_pos hjo]at hj
       rw[List.append_assoc,List.getElem?_append_left (by simp;omega),List.getElem?_take,if_pos (by omega)]
       simpa using rj _ _ _ _ du hj
      ·by_cases jv:j<off+n
       ·rw[List.append_assoc,List.getElem?_append_right (by simp;omega),List.getElem?_append_left (by simp;omega)]at hj
        rw[List.append_assoc,List.getElem?_append_right (by simp;omega),List.getElem?_append_left (by simp;omega)]
        simp only[List.length_take]at hj ⊢
        rw[show j-min off cs.length=j-off by omega]at hj
        rw[show i2*r.sz+j-min (i2*r.sz+off) cur.toList.length=j-off by simp;omega]
        simpa using hL.2 _ _ hj
       ·rw[List.getElem?_append_right (by simp;omega)]at hj
        rw[List.getElem?_append_right (by simp;omega)]
        simp only[List.length_append,List.length_take,List.getElem?_drop,Array.length_toList]at hj ⊢
        rw[show off+(da env y').cells.length+(j-(min off cs.length+(da env y').cells.length))=j by omega]at hj
        rw[show i2*r.sz+off+(a.eval y).cells.size+(i2*r.sz+j-(min (i2*r.sz+off) cur.size+(a.eval y).cells.size))=i2*r.sz+j by omega]
        simpa using rj _ _ _ _ du hj
     ·rw[List.getElem?_set_ne (fun e=>uw e.symm)]at Be
      have hi2l:=(List.getElem?_eq_some_iff.1 Be).1
      have gV:j<r.sz:=by rw[<-R.len c (List.mem_of_getElem? Be)];exact(List.getElem?_eq_some_iff.1 hj).1
      have:=rj _ _ _ _ Be hj
      rcases Nat.lt_or_gt_of_ne uw with eo|KG
      ·have h2:i2*r.sz+j<k*r.sz:=jM eo gV
       rw[List.append_assoc,List.getElem?_append_left (by simp;omega),List.getElem?_take,if_pos (by omega)]
       simpa using this
      ·have h2:k*r.sz+r.sz<=i2*r.sz:=by
        have:(k+1)*r.sz<=i2*r.sz:=Nat.mul_le_mul_right _ KG
        rwa [Nat.add_mul,Nat.one_mul]at this
       rw[List.getElem?_append_right (by simp;omega)]
       simp only[List.length_append,List.length_take,List.getElem?_drop,Array.length_toList]
       rw[show k*r.sz+off+(a.eval y).cells.size+(i2*r.sz+j-(min (k*r.sz+off) cur.size+(a.eval y).cells.size))=i2*r.sz+j by omega]
       simpa using this)
   refine⟨undef,_,ι,.inr ⟨?_,rfl⟩,zt.2,zt.1,dj.undef,fun _ _=>rfl⟩
   simp only[execOp,ho,he,Instr.storeAt,Instr.sureAddr,storeVar,Sem.run_bind,Sem.run_pure,Result.andThen_ok,run_sizeOf hn,J6,ne_eq,not_true_eq_false,if_false,eC]
  ·simp at hv
 ·simp at hv
end
end Go.Proofs.YtgoelphibofcmaaGreat.V

namespace Go.Proofs.YtgoelphibofcmaaGreat.V
open Go.RowKit
variable {P:Program} {w w':World} {D D':Nat->Prop} {ι ι':Names}
section
variable {g:Rows} {hs:Nat} {env:Env} {a:Act} {o:Oper} {id:Id} {v:AV}
theorem mV (S:gi P hs D ι g w) {y:AV} {u:Value} {ys:List (List AV)} {sz:Nat} (hr:dj P w D ι y u) (hy:bm g y=some ys) (hl:∀c∈ys,c.length=sz) (hf:∀c∈ys,∀b∈c,b.cell=true):
  ∃A c,u=.slice A ys.length c/\(ys=[]∨∃b o,∃news:List Value,A=some ⟨b,o,none⟩/\news.length=ys.length*sz/\(∀j v,news[j]? =some v->w.cell? ⟨b,o+j,none⟩=some v)/\eW P w D ι ys.flatten news.toArray/\∀v∈news,v.oneCell'=true):=by
 have fin:∀b o,ys≠[]->(∀i j cs x,ys[i]? =some cs->cs[j]? =some x->∃v,w.cell? ⟨b,o+(i*sz+j),none⟩=some v/\dj P w D ι x v)->
   ∃news:List Value,news.length=ys.length*sz/\(∀j v,news[j]? =some v->w.cell? ⟨b,o+j,none⟩=some v)/\eW P w D ι ys.flatten news.toArray/\∀v∈news,v.oneCell'=true:=by
  intro b o _ h
  have hlen:=vn hl
  have at_:∀k,k<ys.length*sz->∃x,ys.flatten[k]? =some x/\∃v,w.cell? ⟨b,o+k,none⟩=some v/\dj P w D ι x v:=by
   intro k hk
   have jA:0<sz:=by
    rcases Nat.eq_zero_or_pos sz with h0|h0
    ·subst h0;simp at hk
    ·exact h0
   have hi:k / sz<ys.length:=Nat.div_lt_of_lt_mul (by rw[Nat.mul_comm];exact hk)
   have hj:k % sz<sz:=Nat.mod_lt _ jA
   have du:=List.getElem?_eq_getElem hi
   have gV:k % sz<ys[k / sz].length:=by rw[hl _ (List.getElem_mem hi)];exact hj
   have hx:=List.getElem?_eq_getElem gV
   have e:k / sz*sz+k % sz=k:=by rw[Nat.mul_comm];exact Nat.div_add_mod _ _
   refine⟨_,by rw[<-flat_get hl du hx,e],?_⟩
   obtain⟨v,hv,lv⟩:=h _ _ _ _ du hx
   rw[e]at hv
   exact⟨v,hv,lv⟩
  let news:=(List.range (ys.length*sz)).map fun k=>(w.cell? ⟨b,o+k,none⟩).getD undef
  have hn:∀k,k<ys.length*sz->∀v,w.cell? ⟨b,o+k,none⟩=some v->news[k]? =some v:=fun k hk v hv=>by
   simp only[news,List.getElem?_map,List.getElem?_range hk,Option.map_some,hv,Option.getD_some]
  have hR:eW P w D ι ys.flatten news.toArray:=⟨by simp[news,hlen],fun j x hx=>by
   have gV:=(List.getElem?_eq_some_iff.1 hx).1
   rw[hlen]at gV
   obtain⟨x',xc,v,hv,lv⟩:=at_ j gV
   rw[hx]at xc;injection xc with xc;subst xc
   exact⟨v,by simpa using hn j gV v hv,lv⟩⟩
  refine⟨news,by simp[news],fun j v hj=>?_,hR,?_⟩
  ·have gV:j<ys.length*sz:=by have:=(List.getElem?_eq_some_iff.1 hj).1;simpa[news]using this
   obtain⟨x,_,v',nL,_⟩:=at_ j gV
   rw[hn j gV v' nL]at hj
   injection hj with hj
   rw[<-hj];exact nL
  ·have:=BW hR (fun x hx=>by
    obtain⟨c,hc,TK⟩:=List.mem_flatten.1 hx
    exact hf c hc x TK)
   simpa using this
 unfold bm at hy
 split at hy
 ·simp at hy;subst hy
  exact⟨none,0,jZ hr,.inl rfl⟩
 ·rename_i rows
  simp at hy;subst hy
  obtain⟨A,c,he,_,_,h3⟩:=wu hr
  refine⟨A,c,he,?_⟩
  rcases h3 with h3|⟨b,oo,sz',vs,rfl,hD,J2,_,hc,hi⟩
  ·exact .inl h3
  ·by_cases h0:rows=[]
   ·exact .inl h0
   ·have Bj:sz'=sz:=by
     cases rows with
     |nil=>exact(h0 rfl).elim
     |cons c r=>rw[<-J2 c (by simp),hl c (by simp)]
    subst Bj
    obtain⟨news,q1,q2,q3,q4⟩:=fin b oo h0 (fun i j cs x du hx=>⟨_,hc i j (List.getElem?_eq_some_iff.1 du).1 (by rw[<-J2 cs (List.mem_of_getElem? du)];exact(List.getElem?_eq_some_iff.1 hx).1),.eU _ _ (hi i j cs x du hx)⟩)
    exact .inr ⟨b,oo,news,rfl,q1,q2,q3,q4⟩
 ·rename_i i off len
  simp only[Option.bind_eq_some_iff]at hy
  obtain⟨r,hg,hy⟩:=hy
  split at hy
  ·rename_i hle
   simp at hy;subst hy
   obtain⟨oo,cap,B,he,hB,h1,h2,h3,h4,hk⟩:=iu hr
   obtain⟨B',dJ,R,_,_⟩:=S.row i r hg
   rw[hB]at dJ;injection dJ with dJ;subst dJ
   replace R:=R.row hk
   have hlen:((r.rows.drop off).take len).length=len:=by simp;omega
   refine⟨some ⟨B.b,oo,none⟩,cap,by rw[hlen];exact he,?_⟩
   by_cases h0:(r.rows.drop off).take len=[]
   ·exact .inl h0
   ·have Bj:r.sz=sz:=by
     cases hq:(r.rows.drop off).take len with
     |nil=>exact(h0 hq).elim
     |cons c q=>
      have hm:c∈(r.rows.drop off).take len:=by rw[hq];simp
      rw[<-hl c hm,R.len c (List.mem_of_mem_drop (List.mem_of_mem_take hm))]
    have hlp:0<len:=by rw[<-hlen];exact List.length_pos_iff.2 h0
    have Cn:oo=off*B.sz:=by rcases h2 with h2|h2<;>omega
    obtain⟨news,q1,q2,q3,q4⟩:=fin B.b oo h0 (fun i2 j cs x du hx=>by
     rw[List.getElem?_take]at du
     split at du
     ·rw[List.getElem?_drop]at du
      obtain⟨v,hv,lv⟩:=R.at_ _ _ _ _ du hx
      refine⟨v,?_,lv⟩
      rw[Cn,R.sz,<-Bj]
      rw[Nat.add_mul]at hv
      rw[<-Nat.add_assoc]
      exact hv
     ·simp at du)
    exact .inr ⟨B.b,oo,news,rfl,q1,q2,q3,q4⟩
  ·simp at hy
 ·simp at hy
theorem oR {t ty e:TypeId} {i:TypeInfo} (ht:P.underlying t=some (.slice e)) (hi:P.info? e=some i) (A:Option Addr) (n c:Nat) (hn:n<=c) (B:Option Addr) (d:Nat):
  (Builtin.append_ #[t,t] ty #[.slice A n c,.slice B 0 d]).run P w=.ok (.slice A n c) w:=by
 have hf:(Builtin.firstCells i.size 0 (.slice B 0 d)).run P w=.ok #[] w:=by
  cases B<;>simp[Builtin.firstCells,loadCells,loadCellsFrom]
 cases A with
 |none=>simp[Builtin.append_,run_underlying ht,sizeOf,typeInfo,hi,Builtin.lenOf,hn,hf]
 |some A=>simp[Builtin.append_,run_underlying ht,sizeOf,typeInfo,hi,Builtin.lenOf,hn,hf,storeCells]
theorem pS {t ty e T:TypeId} {i:TypeInfo} (ht:P.underlying t=some (.slice e)) (hi:P.info? e=some i) (b nR zR:Nat) (cur:Array Value) (hg:w.heap[b]? =some (.cells cur T (0,0)))
  (x:Addr) (m c:Nat) (news:List Value) (hl:news.length=m*i.size) (Qe:∀j u,news[j]? =some u->w.cell? (x.add j)=some u) (h1:∀u∈news,u.oneCell'=true)
  (eL:nR+m<=zR) (xr:nR*i.size+news.length<=cur.size):
  (Builtin.append_ #[t,t] ty #[.slice (some ⟨b,0,none⟩) nR zR,.slice (some x) m c]).run P w=
   .ok (.slice (some ⟨b,0,none⟩) (nR+m) zR) (w.setRow b (cur.toList.take (nR*i.size)++news++cur.toList.drop (nR*i.size+news.length)).toArray):=by
 have hf:=run_firstCells_some (P:=P) w i.size m x m c news hl Qe
 have eC:=run_storeCells_at P b (nR*i.size) T news 0 cur w hg (by simpa using xr) h1
 simp only[Nat.add_zero]at eC
 simp[Builtin.append_,run_underlying ht,sizeOf,typeInfo,hi,Builtin.lenOf,eL,hf,j7,eC]
theorem A8 (w:World) (Gk BT:Nat) (e:TypeId) (h:Gk<=dr):Gk<=grownCap w Gk BT e/\grownCap w Gk BT e<=maxLen:=by
 unfold dr at h
 simp only[grownCap,Question.cut,maxLen]
 have:=Nat.mod_lt (w.tape w.drawn (.appendCap Gk BT e)) (show 0<2 ^ 63-Gk by omega)
 omega
theorem fW {x y:Operand} {t:TypeId} {u:Value} (ho:o.op=.call {callee:=.builtin .append,args:= #[x,y],argTypes:= #[t,t]}) (h:(Builtin.append_ #[t,t] o.type #[a.eval x,a.eval y]).run P w=.ok u w'):(execOp a.eval o).run P w=.ok (.value u) w':=by
 simp only[execOp,ho,resolve,Sem.run_bind,Sem.run_pure,Result.andThen_ok,invoke,builtin]
 simp only[List.map_toArray,List.map_cons,List.map_nil]
 rw[h];rfl
theorem B5 {T:TypeId} (S:gi P hs D ι g w) (cells:Array Value) (hn:ι id=none) (B:r8):Step hs D ι w D (kc ι id B) (w.drew.alloc (.cells cells T)):=
 Step.stay S (fun k hk=>by show(w.heap.push _)[k]? = _;rw[Array.getElem?_push,if_neg (by omega)]) (by show _<=(w.heap.push _).size;simp) rfl rfl rfl (fun _ h=>h) (fun _ h=>.inl h) (fx hn)
theorem HJ {x y:Operand} {x' y':O} {t e:TypeId} {m:Nat} {z:List K} {i:TypeInfo} {ys:List (List AV)} {g':Rows} (S:gi P hs D ι g w) (E:cC P w D ι env a) (hn:ι id=none) (ho:o.op=.call {callee:=.builtin .append,args:= #[x,y],argTypes:= #[t,t]})
  (ht:P.underlying t=some (.slice e)) (fe:ep P e=some (m+1)) (hz:jE P e=some z) (hi:P.info? e=some i) (hby:i.bytes<=32768) (hx:cO P x=some x') (hy:cO P y=some y') (ES:bm g (da env y')=some ys)
  (hv:aY g id (m+1) (da env x') ys=some (v,g')):Cx P hs a o w D ι id v g':=by
 have rx:=dn E hx
 have ry:=dn E hy
 obtain⟨it,zv,qL,qx,Dj,hm,ET⟩:=jQ hz
 rw[hi]at qL;injection qL with qL;subst qL
 have jz:i.size=m+1:=by simpa[ep,hi]using fe
 have fits:∀n,n<=dr->n*i.bytes<=140737488355328:=fun n h=>by
  unfold dr at h
  have:=Nat.mul_le_mul h hby
  omega
 have e63:∀n,n<=dr->(n:Int)<=9223372036854775807:=fun n h=>by unfold dr at h;omega
 have same:∀(w1:World) (cells:Array Value),w1=w.drew.alloc (.cells cells e)->w1.heap=w.heap.push (.cells cells e (0,0)):=fun w1 cells h=>by subst h;rfl
 have Pp:∀l:List (List AV),(l.all fun c=>c.length==m+1&&c.all AV.cell)=true->(∀c∈l,c.length=m+1)/\∀c∈l,∀b∈c,b.cell=true:=fun l h=>by
  rw[List.all_eq_true]at h
  refine⟨fun c hc=>?_,fun c hc b hb=>?_⟩
  ·have:=h c hc;simp at this;exact this.1
  ·have:=h c hc;simp at this;exact this.2 b hb
 unfold aY at hv
 split at hv
 ·rename_i hb
  rw[hb]at rx
  have ex:=jZ rx
  split at hv
  ·simp at hv
   obtain⟨rfl,rfl⟩:=hv
   obtain⟨A,c,ey,_⟩:=mV (sz:=m+1) S ry ES (fun c h=>by cases h) (fun c h=>by cases h)
   refine⟨_,w,ι,.inl (fW ho (by rw[ex,ey];exact oR ht hi none 0 0 (Nat.le_refl _) A c)),Step.refl _ _ _ _,S,.eU _ _ .bq,fun _ _=>rfl⟩
  ·rename_i y0 yr
   split at hv
   ·rename_i hc
    simp only[Option.some.injEq,Prod.mk.injEq]at hv
    obtain⟨rfl,rfl⟩:=hv
    obtain⟨hl,hf⟩:=Pp _ hc.2
    obtain⟨A,c,ey,h2⟩:=mV (sz:=m+1) S ry ES hl hf
    rcases h2 with h2|⟨b,oo,news,rfl,q1,q2,q3,q4⟩
    ·cases h2
    have gH:=run_append_nil (P:=P) w t o.type e i zv ht hi qx ⟨b,oo,none⟩ (y0::yr).length c news (by rw[jz];exact q1) (fun j v hj=>by rw[j7];exact q2 j v hj) (by simp) (e63 _ hc.1) (by have:=fits _ hc.1;omega)
    obtain⟨g1,g2⟩:=A8 w (y0::yr).length 0 e hc.1
    have du:(news.toArray++Builtin.zeroCells zv.cells (grownCap w (y0::yr).length 0 e-(y0::yr).length)).size=grownCap w (y0::yr).length 0 e*(m+1):=by
     rw[Array.size_append,size_zeroCells,Dj,jz]
     simp only[List.size_toArray,q1]
     rw[<-Nat.add_mul];congr 1;omega
    have S1:=S.alloc (w':=w.drew.alloc (.cells (news.toArray++Builtin.zeroCells zv.cells (grownCap w (y0::yr).length 0 e-(y0::yr).length)) e)) (r:=⟨true,m+1,y0::yr⟩) rfl hn rfl (by rw[du];exact Nat.mul_le_mul_right _ g1) hl hf
     (fun k j cs b2 hk hj=>by
      obtain⟨u,hu,xx⟩:=q3.2 _ _ (flat_get hl hk hj)
      refine⟨u,?_,xx⟩
      have eo:=(Array.getElem?_eq_some_iff.1 hu).1
      dsimp only
      rw[Array.getElem?_append_left eo];exact hu)
    have eC:=B5 (T:=e) S (news.toArray++Builtin.zeroCells zv.cells (grownCap w (y0::yr).length 0 e-(y0::yr).length)) hn ⟨w.heap.size,m+1,(news.toArray++Builtin.zeroCells zv.cells (grownCap w (y0::yr).length 0 e-(y0::yr).length)).size,none⟩
    refine⟨_,_,_,.inl (fW ho (by rw[ex,ey];exact gH)),eC,S1,?_,fun _ h=>gh h⟩
    refine .own _ _ _ _ _ _ (ez _ _ _) rfl g1 (.inr (by simp)) ?_ g2
    dsimp only;rw[du];simp
   ·simp at hv
 ·rename_i i0 len hb
  rw[hb]at rx
  simp only[Option.bind_eq_some_iff]at hv
  obtain⟨r,hg,hv⟩:=hv
  split at hv
  ·rename_i hc
   obtain⟨c1,c2,c3,c4,c5⟩:=hc
   simp only[Option.some.injEq,Prod.mk.injEq]at hv
   obtain⟨rfl,rfl⟩:=hv
   obtain⟨hl,hf⟩:=Pp _ c5
   obtain⟨A,c,ey,h2⟩:=mV (sz:=m+1) S ry ES hl hf
   obtain⟨oo,cap,B,ex,hB,h1,Cn,h3,h4,hk⟩:=iu rx
   obtain⟨B',dJ,R,kh,mm⟩:=S.row _ _ hg
   rw[hB]at dJ;injection dJ with dJ;subst dJ
   replace R:=R.row hk
   have FL:B.sz=m+1:=R.sz.trans c2
   have zC:∀cs∈r.rows++ys,cs.length=m+1:=fun cs du=>by
    rcases List.mem_append.1 du with h|h
    ·rw[<-c2];exact R.len cs h
    ·exact hl cs h
   have LY:∀cs∈r.rows++ys,∀b∈cs,b.cell=true:=fun cs du=>by
    rcases List.mem_append.1 du with h|h
    ·exact R.flat cs h
    ·exact hf cs h
   rcases h2 with rfl|⟨yb,yo,news,rfl,q1,q2,q3,q4⟩
   ·have FV:=S.rename hg c1 hB hn
    refine⟨_,w,kc ι id B,.inl (fW ho (by rw[ex,ey];exact oR ht hi _ _ _ h1 A c)),⟨Below.refl _ _,fun _ _=>rfl,fun _ h=>h,fx hn,fun _ h=>.inl h⟩,?_,?_,fun _ h=>gh h⟩
    ·have:(⟨true,m+1,r.rows++[]⟩:Row)=r:=by cases r;simp_all
     rw[this];exact FV
    ·simp only[List.length_nil,Nat.add_zero]
     exact .own _ _ _ _ _ B (ez _ _ _) hk h1 Cn h3 h4
   ·obtain⟨cur,T,hblk,hC,rj⟩:=R.cur
    by_cases eL:len+ys.length<=cap
    ·have RG:ys≠[]->oo=0:=fun h=>by
      rcases Cn with Cn|Cn
      ·have:=List.length_pos_iff.2 h;omega
      ·simpa using Cn
     by_cases hy0:ys=[]
     ·subst hy0
      have FV:=S.rename hg c1 hB hn
      refine⟨_,w,kc ι id B,.inl (fW ho (by rw[ex,ey];exact oR ht hi _ _ _ h1 _ c)),⟨Below.refl _ _,fun _ _=>rfl,fun _ h=>h,fx hn,fun _ h=>.inl h⟩,?_,?_,fun _ h=>gh h⟩
      ·have:(⟨true,m+1,r.rows++[]⟩:Row)=r:=by cases r;simp_all
       rw[this];exact FV
      ·simp only[List.length_nil,Nat.add_zero]
       exact .own _ _ _ _ _ B (ez _ _ _) hk h1 Cn h3 h4
     have ho0:=RG hy0
     subst ho0
     have xr:len*i.size+news.length<=cur.size:=by
      rw[jz,q1,hC,<-Nat.add_mul]
      refine Nat.le_trans ?_ h3
      rw[FL,Nat.zero_add]
      exact Nat.mul_le_mul_right _ eL
     have gH:=pS (ty:=o.type) ht hi B.b len cap cur hblk ⟨yb,yo,none⟩ ys.length c news (by rw[jz];exact q1) (fun j v hj=>by rw[j7];exact q2 j v hj) q4 eL xr
     have mL:cur.toList.length=cur.size:=Array.length_toList
     simp only[jz]at gH xr
     obtain⟨P1,P2⟩:=S.put (r':=⟨true,m+1,r.rows++ys⟩) hg c1 hB hblk (cur':=(cur.toList.take (len*(m+1))++news++cur.toList.drop (len*(m+1)+news.length)).toArray) (by simp only[List.size_toArray,List.length_append,List.length_take,List.length_drop,mL];omega) rfl c2.symm
      (by dsimp only;rw[List.length_append,<-c3,<-FL];refine Nat.le_trans (Nat.mul_le_mul_right _ eL) (Nat.le_trans (by simp) h3)) zC LY (fun k j cs b2 hk hj=>by
       simp only[List.getElem?_toArray]
       have gV:j<m+1:=by rw[<-zC cs (List.mem_of_getElem? hk)];exact(List.getElem?_eq_some_iff.1 hj).1
       rw[c2]
       by_cases lO:k<r.rows.length
       ·rw[List.getElem?_append_left lO]at hk
        have h2:k*(m+1)+j<len*(m+1):=jM (by omega) gV
        rw[List.append_assoc,List.getElem?_append_left (by simp only[List.length_take,mL];omega),List.getElem?_take,if_pos h2]
        have:=rj k j cs b2 hk hj
        rw[c2]at this;simpa using this
       ·rw[List.getElem?_append_right (by omega)]at hk
        have vJ:=(List.getElem?_eq_some_iff.1 hk).1
        have qt:len*(m+1)<=k*(m+1):=Nat.mul_le_mul_right _ (by omega)
        have qv:k*(m+1)+j-len*(m+1)=(k-r.rows.length)*(m+1)+j:=by
         rw[<-c3,Nat.sub_mul];omega
        obtain⟨u,hu,xx⟩:=q3.2 _ _ (flat_get hl hk hj)
        refine⟨u,?_,xx⟩
        have EO:news[(k-r.rows.length)*(m+1)+j]? =some u:=by simpa using hu
        have eo:=(List.getElem?_eq_some_iff.1 EO).1
        rw[List.append_assoc,List.getElem?_append_right (by simp only[List.length_take,mL];omega),List.getElem?_append_left (by simp only[List.length_take,mL];omega)]
        rw[<-EO]
        congr 1
        simp only[List.length_take,mL]
        omega)
     have eP:bK (bV (bK g i0 ⟨true,m+1,r.rows++ys⟩) i0) id ⟨true,m+1,r.rows++ys⟩=bK (bV g i0) id ⟨true,m+1,r.rows++ys⟩:=by
      funext q;simp only[bK,bV]
      by_cases h:q=id<;>by_cases h':q=i0<;>simp[h,h']
     have FV:=P1.rename (i:=i0) (id:=id) (r:=⟨true,m+1,r.rows++ys⟩) (by simp[bK]) rfl hB hn
     rw[eP]at FV
     refine⟨_,_,_,.inl (fW ho (by rw[ex,ey];exact gH)),P2.trans ⟨Below.refl _ _,fun _ _=>rfl,fun _ h=>h,fx hn,fun _ h=>.inl h⟩,FV,?_,fun _ h=>gh h⟩
     exact .own _ _ _ _ _ B (ez _ _ _) hk eL (.inr (by simp)) h3 h4
    ·
     have holds:∃ug:List Value,ug.length=len*(m+1)/\(∀j v,ug[j]? =some v->w.cell? ⟨B.b,oo+j,none⟩=some v)/\eW P w D ι r.rows.flatten ug.toArray:=by
      obtain⟨A2,c2',e2,h2⟩:=mV (sz:=m+1) (u:=.slice (some ⟨B.b,oo,none⟩) len cap) S (.own i0 0 len oo cap B hB hk h1 Cn h3 h4) (ys:=r.rows) (by simp[bm,hg,c3]) (fun cs h=>by rw[<-c2];exact R.len cs h) R.flat
      rcases h2 with h2|⟨b2,o2,ug,rfl,p1,p2,p3,_⟩
      ·refine⟨[],by simp[c3,h2],fun j v h=>by simp at h,by rw[h2];exact⟨rfl,fun j a h=>by simp at h⟩⟩
      ·injection e2 with e2 _ _
       injection e2 with e2
       injection e2 with e21 e22 _
       subst e21;subst e22
       exact⟨ug,by rw[p1,c3],p2,p3⟩
     obtain⟨ug,p1,p2,p3⟩:=holds
     have gH:=run_append_grow (P:=P) w t o.type e i zv ht hi qx ⟨B.b,oo,none⟩ len cap ug (by rw[jz];exact p1) (fun j v hj=>by rw[j7];exact p2 j v hj) ⟨yb,yo,none⟩ ys.length c news (by rw[jz];exact q1) (fun j v hj=>by rw[j7];exact q2 j v hj) (by omega) (e63 _ c4) (growslice_fits (by omega) (fits _ c4))
     obtain⟨g1,g2⟩:=A8 w (len+ys.length) cap e c4
     have du:(ug.toArray++news.toArray++Builtin.zeroCells zv.cells (grownCap w (len+ys.length) cap e-(len+ys.length))).size=grownCap w (len+ys.length) cap e*(m+1):=by
      rw[Array.size_append,Array.size_append,size_zeroCells,Dj,jz]
      simp only[List.size_toArray,q1,p1]
      rw[<-Nat.add_mul,<-Nat.add_mul];congr 1;omega
     have S1:=(S.kill i0).alloc (id:=id) (w':=w.drew.alloc (.cells (ug.toArray++news.toArray++Builtin.zeroCells zv.cells (grownCap w (len+ys.length) cap e-(len+ys.length))) e)) (r:=⟨true,m+1,r.rows++ys⟩) rfl hn rfl (by dsimp only;rw[du,List.length_append,<-c3];exact Nat.mul_le_mul_right _ g1) zC LY
      (fun k j cs b2 hk hj=>by
       have Ic:=flat_get zC hk hj
       rw[List.flatten_append]at Ic
       have KO:ug.length=r.rows.flatten.length:=by have:=p3.1;simpa using this
       dsimp only
       by_cases eo:k*(m+1)+j<r.rows.flatten.length
       ·rw[List.getElem?_append_left eo]at Ic
        obtain⟨u,hu,xx⟩:=p3.2 _ _ Ic
        refine⟨u,?_,xx⟩
        rw[Array.getElem?_append_left (by simp;omega),Array.getElem?_append_left (by simp;omega)];exact hu
       ·rw[List.getElem?_append_right (by omega)]at Ic
        obtain⟨u,hu,xx⟩:=q3.2 _ _ Ic
        refine⟨u,?_,xx⟩
        have Bg:=(Array.getElem?_eq_some_iff.1 hu).1
        simp only[List.size_toArray]at Bg
        rw[Array.getElem?_append_left (by simp;omega),Array.getElem?_append_right (by simp;omega)]
        simp only[List.size_toArray,KO];exact hu)
     have eC:=B5 (T:=e) S (ug.toArray++news.toArray++Builtin.zeroCells zv.cells (grownCap w (len+ys.length) cap e-(len+ys.length))) hn ⟨w.heap.size,m+1,(ug.toArray++news.toArray++Builtin.zeroCells zv.cells (grownCap w (len+ys.length) cap e-(len+ys.length))).size,none⟩
     refine⟨_,_,_,.inl (fW ho (by rw[ex,ey];exact gH)),eC,S1,?_,fun _ h=>gh h⟩
     refine .own _ _ _ _ _ _ (ez _ _ _) rfl g1 (.inr (by simp)) ?_ g2
     dsimp only;rw[du];simp
  ·simp at hv
 ·simp at hv
theorem kU {x:Operand} {t:TypeId} {u:Value} (ho:o.op=.call {callee:=.builtin .clear,args:= #[x],argTypes:= #[t]}) (h:(Builtin.clear_ #[t] o.type #[a.eval x]).run P w=.ok u w'):(execOp a.eval o).run P w=.ok (.value u) w':=by
 simp only[execOp,ho,resolve,Sem.run_bind,Sem.run_pure,Result.andThen_ok,invoke,builtin]
 simp only[List.map_toArray,List.map_cons,List.map_nil]
 rw[h];rfl
theorem Kq {x:Operand} {x':O} {t e:TypeId} {m:Nat} {z:List K} {g':Rows} (S:gi P hs D ι g w) (E:cC P w D ι env a) (ho:o.op=.call {callee:=.builtin .clear,args:= #[x],argTypes:= #[t]})
  (ht:P.underlying t=some (.slice e)) (fe:ep P e=some (m+1)) (hz:jE P e=some z) (hx:cO P x=some x') (hv:bD g z (da env x')=some g'):Cx P hs a o w D ι id .undef g':=by
 have rx:=dn E hx
 obtain⟨it,zv,hi,qx,Dj,hm,ET⟩:=jQ hz
 have jz:it.size=m+1:=by simpa[ep,hi]using fe
 unfold bD at hv
 split at hv
 ·rename_i hb
  rw[hb]at rx
  simp at hv;subst hv
  refine⟨undef,w,ι,.inl (kU ho (by rw[jZ rx];simp only[Builtin.clear_,Sem.run_bind];simp[run_underlying ht,undef])),Step.refl _ _ _ _,S,dj.undef,fun _ _=>rfl⟩
 ·rename_i i off len hb
  rw[hb]at rx
  simp only[Option.bind_eq_some_iff]at hv
  obtain⟨r,hg,hv⟩:=hv
  split at hv
  ·rename_i hc
   obtain⟨c1,c2,c3⟩:=hc
   simp only[Option.some.injEq]at hv;subst hv
   obtain⟨oo,cap,B,ex,hB,h1,h2,h3,h4,hk⟩:=iu rx
   obtain⟨B',dJ,R,kh,mm⟩:=S.row _ _ hg
   rw[hB]at dJ;injection dJ with dJ;subst dJ
   replace R:=R.row hk
   obtain⟨cur,T,hblk,hC,rj⟩:=R.cur
   by_cases h0:len=0
   ·subst h0
    have e1:({r with rows:=r.rows.take off++List.replicate 0 (z.map K.av)++r.rows.drop (off+0)}:Row)=r:=by cases r;simp
    rw[e1]
    have e2:bK g i r=g:=by
     funext q;unfold bK;split
     ·rename_i h;rw[h,hg]
     ·rfl
    rw[e2]
    refine⟨undef,w,ι,.inl (kU ho (by rw[ex];simp only[Builtin.clear_,Sem.run_bind];simp[run_underlying ht,undef])),Step.refl _ _ _ _,S,dj.undef,fun _ _=>rfl⟩
   ·have EK:oo=off*B.sz:=by rcases h2 with h2|h2<;>omega
    have FL:B.sz=m+1:=by rw[R.sz,c2,ET,jz]
    have yh:r.sz=m+1:=by rw[<-R.sz,FL]
    have Qy:zv.cells.size=m+1:=by rw[Dj,jz]
    have yj:(Builtin.zeroCells zv.cells len).toList.length=len*(m+1):=by rw[Array.length_toList,size_zeroCells,Qy]
    have Qx:∀k,k<len*(m+1)->∃c,z[k % z.length]? =some c/\(Builtin.zeroCells zv.cells len).toList[k]? =some c.val:=fun k hk=>by
     obtain⟨c,mK,yd⟩:=o9 (n:=len*zv.cells.size) hm (by rw[ET,jz];omega) k (by rw[Qy];exact hk)
     exact⟨c,mK,by rw[Array.getElem?_toList];exact yd⟩
    have hbound:(off+len)*(m+1)<=r.rows.length*(m+1):=Nat.mul_le_mul_right _ c3
    have Ib:=R.fits
    rw[yh]at Ib
    have S5:(off+len)*(m+1)=off*(m+1)+len*(m+1):=Nat.add_mul _ _ _
    have eC:=run_storeCells_at P B.b oo T (Builtin.zeroCells zv.cells len).toList 0 cur w hblk (by rw[yj,hC,EK,FL];omega) (by
     intro v hv
     obtain⟨k,hk,rfl⟩:=List.getElem_of_mem hv
     obtain⟨c,_,yd⟩:=Qx k (by rw[<-yj];exact hk)
     rw[List.getElem?_eq_getElem hk]at yd
     injection yd with yd
     rw[yd];cases c<;>rfl)
    simp only[Nat.add_zero]at eC
    have mL:cur.toList.length=cur.size:=Array.length_toList
    obtain⟨P1,P2⟩:=S.put (r':={r with rows:=r.rows.take off++List.replicate len (z.map K.av)++r.rows.drop (off+len)}) hg c1 hB hblk (cur':=(cur.toList.take oo++(Builtin.zeroCells zv.cells len).toList++cur.toList.drop (oo+(Builtin.zeroCells zv.cells len).toList.length)).toArray)
     (by simp only[List.size_toArray,List.length_append,List.length_take,List.length_drop,mL,yj];rw[EK,FL];omega) c1 rfl (by
      have:(r.rows.take off++List.replicate len (z.map K.av)++r.rows.drop (off+len)).length=r.rows.length:=by simp;omega
      dsimp only;rw[this];exact R.fits) (fun cs du=>by
      rcases List.mem_append.1 du with h|h
      ·rcases List.mem_append.1 h with h|h
       ·exact R.len cs (List.mem_of_mem_take h)
       ·rw[List.eq_of_mem_replicate h];simp[c2]
      ·exact R.len cs (List.mem_of_mem_drop h)) (fun cs du b hb=>by
      rcases List.mem_append.1 du with h|h
      ·rcases List.mem_append.1 h with h|h
       ·exact R.flat cs (List.mem_of_mem_take h) b hb
       ·rw[List.eq_of_mem_replicate h]at hb
        obtain⟨c,_,rfl⟩:=List.mem_map.1 hb;exact c.mD
      ·exact R.flat cs (List.mem_of_mem_drop h) b hb) (fun k j cs b hk hj=>by
      simp only[List.getElem?_toArray]
      rw[yh]
      rw[EK,FL,yj]
      by_cases vI:k<off
      ·rw[List.append_assoc,List.getElem?_append_left (by simp;omega),List.getElem?_take,if_pos vI]at hk
       have gV:j<m+1:=by rw[<-yh,<-R.len cs (List.mem_of_getElem? hk)];exact(List.getElem?_eq_some_iff.1 hj).1
       have h2:=jM vI gV
       rw[List.append_assoc,List.getElem?_append_left (by simp only[List.length_take,mL];omega),List.getElem?_take,if_pos h2]
       have:=rj k j cs b hk hj
       rw[yh]at this;simpa using this
      ·by_cases vJ:k<off+len
       ·rw[List.append_assoc,List.getElem?_append_right (by simp;omega),List.getElem?_append_left (by simp;omega)]at hk
        have gC:=List.eq_of_mem_replicate (List.mem_of_getElem? hk)
        subst gC
        simp only[List.getElem?_map,Option.map_eq_some_iff]at hj
        obtain⟨q,hq,rfl⟩:=hj
        have gV:=(List.getElem?_eq_some_iff.1 hq).1
        rw[ET,jz]at gV
        have qt:off*(m+1)<=k*(m+1):=Nat.mul_le_mul_right _ (by omega)
        have qv:k*(m+1)+j-off*(m+1)=(k-off)*(m+1)+j:=by rw[Nat.sub_mul];omega
        have Bg:(k-off)*(m+1)+j<len*(m+1):=jM (by omega) gV
        rw[List.append_assoc,List.getElem?_append_right (by simp only[List.length_take,mL];omega),List.getElem?_append_left (by simp only[List.length_take,mL,yj];omega)]
        obtain⟨c,mK,yd⟩:=Qx _ Bg
        rw[ET,jz,Nat.mul_comm (k-off),Nat.mul_add_mod,Nat.mod_eq_of_lt gV,hq]at mK
        injection mK with mK;subst mK
        refine⟨q.val,?_,wo q⟩
        rw[<-yd]
        congr 1
        simp only[List.length_take,mL];omega
       ·rw[List.getElem?_append_right (by simp;omega)]at hk
        simp only[List.length_append,List.length_take,List.length_replicate,List.getElem?_drop]at hk
        rw[show off+len+(k-(min off r.rows.length+len))=k by omega]at hk
        have lO:=(List.getElem?_eq_some_iff.1 hk).1
        have qt:(off+len)*(m+1)<=k*(m+1):=Nat.mul_le_mul_right _ (by omega)
        rw[List.getElem?_append_right (by simp only[List.length_append,List.length_take,mL,yj];omega)]
        simp only[List.length_append,List.length_take,mL,yj,List.getElem?_drop]
        rw[show off*(m+1)+len*(m+1)+(k*(m+1)+j-(min (off*(m+1)) cur.size+len*(m+1)))=k*(m+1)+j by omega]
        have:=rj k j cs b hk hj
        rw[yh]at this;simpa using this)
    refine⟨undef,_,ι,.inl (kU ho ?_),P2,P1,dj.undef,fun _ _=>rfl⟩
    rw[ex]
    cases len with
    |zero=>exact(h0 rfl).elim
    |succ len=>
     simp only[Builtin.clear_,Sem.run_bind]
     simp[run_underlying ht,zeroValue,typeInfo,hi,qx,eC,undef]
  ·simp at hv
 ·simp at hv
theorem Gz {dT sT ty e:TypeId} {it:TypeInfo} (hu:P.underlying dT=some (.slice e)) (hi:P.info? e=some it) (A B:Option Addr) (nR zR xo HF:Nat) (h0:Nat.min nR xo=0):
  (Builtin.copy_ #[dT,sT] ty #[.slice A xo HF,.slice B nR zR]).run P w=.ok (goInt 0) w:=by
 cases A<;>cases B<;>simp[Builtin.copy_,run_underlying hu,Builtin.lenOf,Builtin.firstCells,sizeOf,typeInfo,hi,h0,storeCells,loadCells,loadCellsFrom]
theorem GA {dT sT ty e:TypeId} {it:TypeInfo} (hu:P.underlying dT=some (.slice e)) (hi:P.info? e=some it) (A B:Addr) (nR zR xo HF:Nat) (cs:List Value) (hn:cs.length=Nat.min nR xo*it.size) (hl:(loadCells B cs.length).run P w=.ok cs.toArray w) (hs:(storeCells A cs).run P w=.ok () w'):
  (Builtin.copy_ #[dT,sT] ty #[.slice (some A) xo HF,.slice (some B) nR zR]).run P w=.ok (goInt (Nat.min nR xo)) w':=by
 simp[Builtin.copy_,run_underlying hu,Builtin.lenOf,Builtin.firstCells,sizeOf,typeInfo,hi,<-hn,hl,hs]
theorem pU {x y:Operand} {t t2:TypeId} {u:Value} (ho:o.op=.call {callee:=.builtin .copy,args:= #[x,y],argTypes:= #[t,t2]}) (h:(Builtin.copy_ #[t,t2] o.type #[a.eval x,a.eval y]).run P w=.ok u w'):(execOp a.eval o).run P w=.ok (.value u) w':=by
 simp only[execOp,ho,resolve,Sem.run_bind,Sem.run_pure,Result.andThen_ok,invoke,builtin]
 simp only[List.map_toArray,List.map_cons,List.map_nil]
 rw[h];rfl
theorem MU {x y:Operand} {x' y':O} {t t2 e:TypeId} {m:Nat} {ys:List (List AV)} {v:AV} {g':Rows} (S:gi P hs D ι g w) (E:cC P w D ι env a) (ho:o.op=.call {callee:=.builtin .copy,args:= #[x,y],argTypes:= #[t,t2]})
  (ht:P.underlying t=some (.slice e)) (fe:ep P e=some (m+1)) (hx:cO P x=some x') (hy:cO P y=some y') (ES:bm g (da env y')=some ys) (hv:Fb g (m+1) (da env x') ys=some (v,g')):Cx P hs a o w D ι id v g':=by
 have rx:=dn E hx
 have ry:=dn E hy
 obtain⟨it,hi,jz⟩:∃it,P.info? e=some it/\it.size=m+1:=by
  cases hq:P.info? e with
  |none=>simp[ep,hq]at fe
  |some it=>exact⟨it,rfl,by simpa[ep,hq]using fe⟩
 unfold Fb at hv
 split at hv
 ·rename_i i off len hb
  rw[hb]at rx
  simp only[Option.bind_eq_some_iff]at hv
  obtain⟨r,hg,hv⟩:=hv
  split at hv
  ·rename_i hc
   obtain⟨c1,c2,c3,c4⟩:=hc
   simp only[Option.some.injEq,Prod.mk.injEq]at hv
   obtain⟨rfl,rfl⟩:=hv
   rw[List.all_eq_true]at c4
   have hl:∀c∈ys,c.length=m+1:=fun c hc=>by have:=c4 c hc;simp at this;exact this.1
   have hf:∀c∈ys,∀b∈c,b.cell=true:=fun c hc b hb=>by have:=c4 c hc;simp at this;exact this.2 b hb
   obtain⟨oo,cap,B,ex,hB,h1,h2,h3,h4,hk⟩:=iu rx
   obtain⟨B',dJ,R,kh,mm⟩:=S.row _ _ hg
   rw[hB]at dJ;injection dJ with dJ;subst dJ
   replace R:=R.row hk
   obtain⟨cur,T,hblk,hC,rj⟩:=R.cur
   obtain⟨A,sc,hu,hA⟩:=mV S ry ES hl hf
   by_cases h0:min ys.length len=0
   ·rw[h0]
    have e1:({r with rows:=r.rows.take off++ys.take 0++r.rows.drop (off+0)}:Row)=r:=by cases r;simp
    rw[e1]
    have e2:bK g i r=g:=by
     funext q;unfold bK;split
     ·rename_i h;rw[h,hg]
     ·rfl
    rw[e2]
    refine⟨goInt 0,w,ι,.inl (pU ho (by rw[ex,hu];exact Gz ht hi _ _ _ _ _ _ h0)),Step.refl _ _ _ _,S,.eU _ _ (.int _ _),fun _ _=>rfl⟩
   ·rcases hA with rfl|⟨b,o2,news,rfl,Am,FW,hR,PE⟩
    ·simp at h0
    have Qb:Nat.min ys.length len=min ys.length len:=rfl
    have hky:min ys.length len<=ys.length:=Nat.min_le_left _ _
    have lO:min ys.length len<=len:=Nat.min_le_right _ _
    generalize OT:min ys.length len=kk at *
    have hlen0:len≠0:=by omega
    have EK:oo=off*B.sz:=by rcases h2 with h2|h2<;>omega
    have FL:B.sz=m+1:=by rw[R.sz,c2]
    have yh:r.sz=m+1:=c2
    have Rx:kk*(m+1)<=ys.length*(m+1):=Nat.mul_le_mul_right _ hky
    have yj:(news.take (kk*(m+1))).length=kk*(m+1):=by rw[List.length_take,Am];omega
    have hbound:(off+kk)*(m+1)<=r.rows.length*(m+1):=Nat.mul_le_mul_right _ (by omega)
    have Ib:=R.fits
    rw[yh]at Ib
    have S5:(off+kk)*(m+1)=off*(m+1)+kk*(m+1):=Nat.add_mul _ _ _
    have eC:=run_storeCells_at P B.b oo T (news.take (kk*(m+1))) 0 cur w hblk (by rw[yj,hC,EK,FL];omega) (fun v hv=>PE v (List.mem_of_mem_take hv))
    have RB:=run_loadCells_list (P:=P) w ⟨b,o2,none⟩ (news.take (kk*(m+1))) (fun j v hj=>by
     rw[List.getElem?_take]at hj
     split at hj
     ·have:=FW j v hj
      cases j with
      |zero=>simpa[Addr.add]using this
      |succ j=>simpa[Addr.add]using this
     ·cases hj)
    simp only[Nat.add_zero]at eC
    have mL:cur.toList.length=cur.size:=Array.length_toList
    have Mm:(ys.take kk).length=kk:=by rw[List.length_take];omega
    obtain⟨P1,P2⟩:=S.put (r':={r with rows:=r.rows.take off++ys.take kk++r.rows.drop (off+kk)}) hg c1 hB hblk (cur':=(cur.toList.take oo++news.take (kk*(m+1))++cur.toList.drop (oo+(news.take (kk*(m+1))).length)).toArray)
     (by simp only[List.size_toArray,List.length_append,List.length_drop,mL,yj];rw[List.length_take,mL,EK,FL];omega) c1 rfl (by
      have:(r.rows.take off++ys.take kk++r.rows.drop (off+kk)).length=r.rows.length:=by simp;omega
      dsimp only;rw[this];exact R.fits) (fun cs du=>by
      rcases List.mem_append.1 du with h|h
      ·rcases List.mem_append.1 h with h|h
       ·exact R.len cs (List.mem_of_mem_take h)
       ·rw[hl cs (List.mem_of_mem_take h)];exact c2.symm
      ·exact R.len cs (List.mem_of_mem_drop h)) (fun cs du b hb=>by
      rcases List.mem_append.1 du with h|h
      ·rcases List.mem_append.1 h with h|h
       ·exact R.flat cs (List.mem_of_mem_take h) b hb
       ·exact hf cs (List.mem_of_mem_take h) b hb
      ·exact R.flat cs (List.mem_of_mem_drop h) b hb) (fun k j cs b hk hj=>by
      simp only[List.getElem?_toArray]
      rw[yh]
      rw[EK,FL,yj]
      by_cases vI:k<off
      ·rw[List.append_assoc,List.getElem?_append_left (by simp;omega),List.getElem?_take,if_pos vI]at hk
       have gV:j<m+1:=by rw[<-yh,<-R.len cs (List.mem_of_getElem? hk)];exact(List.getElem?_eq_some_iff.1 hj).1
       have h2:=jM vI gV
       rw[List.append_assoc,List.getElem?_append_left (by simp only[List.length_take,mL];omega),List.getElem?_take,if_pos h2]
       have:=rj k j cs b hk hj
       rw[yh]at this;simpa using this
      ·by_cases vJ:k<off+kk
       ·rw[List.append_assoc,List.getElem?_append_right (by simp;omega),List.getElem?_append_left (by simp;omega)]at hk
        simp only[List.length_take]at hk
        rw[show k-min off r.rows.length=k-off by omega,List.getElem?_take,if_pos (by omega)]at hk
        have gV:j<m+1:=by rw[<-hl cs (List.mem_of_getElem? hk)];exact(List.getElem?_eq_some_iff.1 hj).1
        have qt:off*(m+1)<=k*(m+1):=Nat.mul_le_mul_right _ (by omega)
        have qv:k*(m+1)+j-off*(m+1)=(k-off)*(m+1)+j:=by rw[Nat.sub_mul];omega
        have Bg:(k-off)*(m+1)+j<kk*(m+1):=jM (by omega) gV
        rw[List.append_assoc,List.getElem?_append_right (by simp only[List.length_take,mL];omega),List.getElem?_append_left (by rw[yj];simp only[List.length_take,mL];omega)]
        obtain⟨u,Qp,hu2⟩:=hR.2 ((k-off)*(m+1)+j) b (flat_get hl hk hj)
        refine⟨u,?_,hu2⟩
        rw[List.getElem?_take]
        simp only[List.length_take,mL]
        rw[show k*(m+1)+j-min (off*(m+1)) cur.size=(k-off)*(m+1)+j by omega,if_pos Bg]
        simpa using Qp
       ·rw[List.getElem?_append_right (by simp;omega)]at hk
        simp only[List.length_append,List.length_take,List.getElem?_drop]at hk
        rw[show off+kk+(k-(min off r.rows.length+min kk ys.length))=k by omega]at hk
        have lO:=(List.getElem?_eq_some_iff.1 hk).1
        have qt:(off+kk)*(m+1)<=k*(m+1):=Nat.mul_le_mul_right _ (by omega)
        rw[List.getElem?_append_right (by rw[List.length_append,yj];simp only[List.length_take,mL];omega)]
        rw[List.getElem?_drop,List.length_append,yj]
        simp only[List.length_take,mL]
        rw[show off*(m+1)+kk*(m+1)+(k*(m+1)+j-(min (off*(m+1)) cur.size+kk*(m+1)))=k*(m+1)+j by omega]
        have:=rj k j cs b hk hj
        rw[yh]at this;simpa using this)
    refine⟨goInt kk,_,ι,.inl (pU ho ?_),P2,P1,.eU _ _ (.int _ _),fun _ _=>rfl⟩
    rw[ex,hu]
    have:=GA (w:=w) (sT:=t2) (ty:=o.type) ht hi ⟨B.b,oo,none⟩ ⟨b,o2,none⟩ ys.length sc len cap _ (by rw[yj,Qb,jz]) RB eC
    rw[Qb]at this
    exact this
  ·simp at hv
 ·simp at hv
end
end Go.Proofs.YtgoelphibofcmaaGreat.V

namespace Go.Proofs.YtgoelphibofcmaaGreat.V
open Go.RowKit
variable {P:Program} {w w':World} {D D' D2:Nat->Prop} {ι ι' ι2:Names}
section
variable {g:Rows} {hs:Nat}
theorem gq:∀{n:Nat} {l r:List AV},dd g n l=some r->r.length=l.length/\∀(j:Nat) (b:AV),r[j]? =some b->∃a,l[j]? =some a/\fz g n a=some b
 |n,[],r,h=>by
  rw[dd]at h;simp at h;subst h;simp
 |n,a::l,r,h=>by
  rw[dd]at h
  split at h
  ·rename_i b hb
   simp only[Option.map_eq_some_iff]at h
   obtain⟨r',hr,rfl⟩:=h
   obtain⟨h1,h2⟩:=gq hr
   refine⟨by simp[h1],fun j c hj=>?_⟩
   cases j with
   |zero=>simp at hj;subst hj;exact⟨a,rfl,hb⟩
   |succ j=>simp at hj ⊢;exact h2 j c hj
  ·simp at h
theorem vw:∀{n:Nat} {l r:List (List AV)},ev g n l=some r->r.length=l.length/\∀(j:Nat) (b:List AV),r[j]? =some b->∃a,l[j]? =some a/\dd g n a=some b
 |n,[],r,h=>by
  rw[ev]at h;simp at h;subst h;simp
 |n,a::l,r,h=>by
  rw[ev]at h
  split at h
  ·rename_i b hb
   simp only[Option.map_eq_some_iff]at h
   obtain⟨r',hr,rfl⟩:=h
   obtain⟨h1,h2⟩:=vw hr
   refine⟨by simp[h1],fun j c hj=>?_⟩
   cases j with
   |zero=>simp at hj;subst hj;exact⟨a,rfl,hb⟩
   |succ j=>simp at hj ⊢;exact h2 j c hj
  ·simp at h
theorem rf (hD:∀b,D b->D2 b) (Cm:∀id row,g id=some row->row.w=true->∃B,ι id=some B/\ia P w D ι B row/\D2 B.b):∀(n:Nat) (a:AV) (u:Value) (r:AV),dj P w D ι a u->fz g n a=some r->dj P w D2 ι2 r u/\(a.cell=true->jw P w D2 r u/\r.cell=true):=by
 intro n
 induction n with
 |zero=>intro a u r _ h;rw[fz]at h;simp at h
 |succ n ih=>
  intro a u r hr h
  have both:∀{r:AV},jw P w D2 r u->r.cell=true->dj P w D2 ι2 r u/\(a.cell=true->jw P w D2 r u/\r.cell=true):=fun h1 h2=>⟨.eU _ _ h1,fun _=>⟨h1,h2⟩⟩
  cases a with
  |map id m=>rw[fz]at h;cases h
  |qZ id=>rw[fz]at h;cases h
  |own id off len=>
   rw[fz]at h
   split at h
   ·rename_i row hg
    split at h
    ·rename_i hw
     split at h
     ·rename_i hle
      simp only[Option.map_eq_some_iff]at h
      obtain⟨rows,rq,rfl⟩:=h
      obtain⟨B,hB,R,Na⟩:=Cm id row hg hw
      obtain⟨o,cap,B',rfl,dJ,h1,h2,h3,h4,hk⟩:=iu hr
      rw[hB]at dJ;injection dJ with dJ;subst dJ
      replace R:=R.row hk
      obtain⟨l1,l2⟩:=vw rq
      have hlen:rows.length=len:=by rw[l1];simp;omega
      by_cases h0:rows=[]
      ·subst h0
       simp at hlen;subst hlen
       exact both (.As _ _ h4) rfl
      ·have hlp:0<len:=by rw[<-hlen];exact List.length_pos_iff.2 h0
       have ho:o=off*B.sz:=by rcases h2 with h2|h2<;>omega
       have src:∀i cs,rows[i]? =some cs->∃c0,row.rows[off+i]? =some c0/\dd g n c0=some cs:=fun i cs hi=>by
        obtain⟨c0,jF,hf⟩:=l2 i cs hi
        rw[List.getElem?_take]at jF
        split at jF
        ·rw[List.getElem?_drop]at jF;exact⟨c0,jF,hf⟩
        ·simp at jF
       have cell:∀i j,i<len->j<row.sz->∃c0 a0 v,row.rows[off+i]? =some c0/\c0[j]? =some a0/\w.cell? ⟨B.b,o+(i*row.sz+j),none⟩=some v/\dj P w D ι a0 v:=fun i j hi hj=>by
        have qL:off+i<row.rows.length:=by omega
        have e1:=List.getElem?_eq_getElem qL
        have J0:j<row.rows[off+i].length:=by rw[R.len _ (List.getElem_mem qL)];exact hj
        obtain⟨v,hv,lv⟩:=R.at_ _ _ _ _ e1 (List.getElem?_eq_getElem J0)
        refine⟨_,_,v,e1,List.getElem?_eq_getElem J0,?_,lv⟩
        rw[ho,R.sz,<-hv]
        congr 2
        rw[Nat.add_mul];omega
       refine both (.sl rows B.b o len cap row.sz (fun i j=>(w.cell? ⟨B.b,o+(i*row.sz+j),none⟩).getD undef) hlen h1 h4 Na (fun cs du=>?_) (fun cs du b hb=>?_) (fun i j hi hj=>?_) (fun i j cs b hi hj=>?_)) rfl
       ·obtain⟨i,hi,rfl⟩:=List.getElem_of_mem du
        obtain⟨c0,jF,hf⟩:=src i _ (List.getElem?_eq_getElem hi)
        rw[(gq hf).1];exact R.len c0 (List.mem_of_getElem? jF)
       ·obtain⟨i,hi,rfl⟩:=List.getElem_of_mem du
        obtain⟨c0,jF,hf⟩:=src i _ (List.getElem?_eq_getElem hi)
        obtain⟨j,hj,rfl⟩:=List.getElem_of_mem hb
        obtain⟨a0,kZ,FQ⟩:=(gq hf).2 j _ (List.getElem?_eq_getElem hj)
        obtain⟨v,_,lv⟩:=R.at_ _ _ _ _ jF kZ
        exact((ih _ _ _ lv FQ).2 (R.flat c0 (List.mem_of_getElem? jF) a0 (List.mem_of_getElem? kZ))).2
       ·obtain⟨c0,a0,v,_,_,hv,_⟩:=cell i j hi hj
        simp only[hv,Option.getD_some]
       ·obtain⟨c0,jF,hf⟩:=src i cs hi
        obtain⟨a0,kZ,FQ⟩:=(gq hf).2 j b hj
        have nI:i<len:=by rw[<-hlen];exact(List.getElem?_eq_some_iff.1 hi).1
        have gV:j<row.sz:=by rw[<-R.len c0 (List.mem_of_getElem? jF)];exact(List.getElem?_eq_some_iff.1 kZ).1
        obtain⟨c1,a1,v,e1,e2,hv,lv⟩:=cell i j nI gV
        rw[jF]at e1;injection e1 with e1;subst e1
        rw[kZ]at e2;injection e2 with e2;subst e2
        simp only[hv,Option.getD_some]
        exact((ih _ _ _ lv FQ).2 (R.flat c0 (List.mem_of_getElem? jF) a0 (List.mem_of_getElem? kZ))).1
     ·simp at h
    ·simp at h
   ·simp at h
  |ptr id i off=>
   rw[fz]at h
   split at h
   ·rename_i row hg
    split at h
    ·rename_i hw
     split at h
     ·rename_i c0 jF
      simp only[Option.map_eq_some_iff]at h
      obtain⟨cs,du,rfl⟩:=h
      obtain⟨B,hB,R,Na⟩:=Cm id row hg hw
      obtain⟨B',rfl,dJ,hk⟩:=jr hr
      rw[hB]at dJ;injection dJ with dJ;subst dJ
      replace R:=R.row hk
      obtain⟨l1,l2⟩:=gq du
      have at_:∀j b,cs[j]? =some b->∃a0 v,w.cell? ⟨B.b,i*B.sz+off+j,none⟩=some v/\dj P w D ι a0 v/\a0.cell=true/\fz g n a0=some b:=fun j b hj=>by
       obtain⟨a0,kZ,hf⟩:=l2 j b hj
       rw[List.getElem?_drop]at kZ
       obtain⟨v,hv,lv⟩:=R.at_ _ _ _ _ jF kZ
       refine⟨a0,v,?_,lv,R.flat c0 (List.mem_of_getElem? jF) a0 (List.mem_of_getElem? kZ),hf⟩
       rw[R.sz,Nat.add_assoc];exact hv
      refine both (.di cs B.b _ (fun j=>(w.cell? ⟨B.b,i*B.sz+off+j,none⟩).getD undef) Na (fun b hb=>?_) (fun j hj=>?_) (fun j b hj=>?_)) rfl
      ·obtain⟨j,hj,rfl⟩:=List.getElem_of_mem hb
       obtain⟨a0,v,_,lv,hc,hf⟩:=at_ j _ (List.getElem?_eq_getElem hj)
       exact((ih _ _ _ lv hf).2 hc).2
      ·obtain⟨a0,v,hv,_⟩:=at_ j _ (List.getElem?_eq_getElem hj)
       simp only[hv,Option.getD_some]
      ·obtain⟨a0,v,hv,lv,hc,hf⟩:=at_ j b hj
       simp only[hv,Option.getD_some]
       exact((ih _ _ _ lv hf).2 hc).1
     ·simp at h
    ·simp at h
   ·simp at h
  |agg cs=>
   rw[fz]at h
   simp only[Option.map_eq_some_iff]at h
   obtain⟨r',nS,rfl⟩:=h
   obtain⟨vs,f,rfl,h1,h2,h3,h4⟩:=iP hr
   obtain⟨l1,l2⟩:=gq nS
   have hI:jw P w D2 (.agg r') (.agg vs):=.agg r' vs f (by rw[h1,l1]) (fun b hb=>by
    obtain⟨j,hj,rfl⟩:=List.getElem_of_mem hb
    obtain⟨a0,kZ,hf⟩:=l2 j _ (List.getElem?_eq_getElem hj)
    exact((ih _ _ _ (h4 j a0 kZ) hf).2 (h2 a0 (List.mem_of_getElem? kZ))).2) (fun j hj=>h3 j (by rw[<-l1];exact hj)) (fun j b hj=>by
    obtain⟨a0,kZ,hf⟩:=l2 j b hj
    exact((ih _ _ _ (h4 j a0 kZ) hf).2 (h2 a0 (List.mem_of_getElem? kZ))).1)
   exact⟨.eU _ _ hI,fun hc=>by simp[AV.cell]at hc⟩
  |iO cs=>
   rw[fz]at h
   simp only[Option.map_eq_some_iff]at h
   obtain⟨r',nS,rfl⟩:=h
   obtain⟨vs,f,rfl,h1,h3,h4⟩:=uB hr
   obtain⟨l1,l2⟩:=gq nS
   exact⟨.iO r' vs f (by rw[h1,l1]) (fun j hj=>h3 j (by rw[<-l1];exact hj)) (fun j b hj=>by
    obtain⟨a0,kZ,hf⟩:=l2 j b hj
    exact(ih _ _ _ (h4 j a0 kZ) hf).1),fun hc=>by simp[AV.cell]at hc⟩
  |fn f de=>
   rw[fz]at h
   split at h
   ·rename_i ef
    simp only[Option.map_eq_some_iff]at h
    obtain⟨r',nS,rfl⟩:=h
    obtain⟨vs,q,rfl,h0,h1,h3,h4⟩:=DL hr
    obtain⟨l1,l2⟩:=gq nS
    exact both (.fn f r' vs q h0 (by rw[h1,l1]) (fun j hj=>h3 j (by rw[<-l1];exact hj)) (fun j b hj=>by
     obtain⟨a0,kZ,hf⟩:=l2 j b hj
     exact((ih _ _ _ (h4 j a0 kZ) hf).2 (List.all_eq_true.1 ef a0 (List.mem_of_getElem? kZ))).1)) rfl
   ·simp at h
  |int k m=>rw[fz]at h<;>(try simp at h)<;>(try subst h)<;>(try(rw[dz hr];exact⟨.eU _ _ (.int _ _),fun _=>⟨.int _ _,rfl⟩⟩))<;>(try(intros;simp_all))
  |bool b=>rw[fz]at h<;>(try simp at h)<;>(try subst h)<;>(try(rw[fa hr];exact⟨.eU _ _ (.bool _),fun _=>⟨.bool _,rfl⟩⟩))<;>(try(intros;simp_all))
  |str b=>rw[fz]at h<;>(try simp at h)<;>(try subst h)<;>(try(rw[fC hr];exact⟨.eU _ _ (.str _),fun _=>⟨.str _,rfl⟩⟩))<;>(try(intros;simp_all))
  |bq=>rw[fz]at h<;>(try simp at h)<;>(try subst h)<;>(try(rw[jZ hr];exact⟨.eU _ _ .bq,fun _=>⟨.bq,rfl⟩⟩))<;>(try(intros;simp_all))
  |iT=>rw[fz]at h<;>(try simp at h)<;>(try subst h)<;>(try(rw[wq hr];exact⟨.eU _ _ .iT,fun _=>⟨.iT,rfl⟩⟩))<;>(try(intros;simp_all))
  |je=>rw[fz]at h<;>(try simp at h)<;>(try subst h)<;>(try(rw[BY hr];exact⟨.eU _ _ .je,fun _=>⟨.je,rfl⟩⟩))<;>(try(intros;simp_all))
  |tH f de=>rw[fz]at h<;>(try simp at h)<;>(try(intros;simp_all))
  |gJ=>rw[fz]at h<;>(try simp at h)<;>(try subst h)<;>(try(cases hr with|eU _ _ hr=>exact both (hr.frame (fun _ _=>rfl) hD) rfl))<;>(try(intros;simp_all))
  |sl rows=>rw[fz]at h<;>(try simp at h)<;>(try subst h)<;>(try(cases hr with|eU _ _ hr=>exact both (hr.frame (fun _ _=>rfl) hD) rfl))<;>(try(intros;simp_all))
  |di cs=>rw[fz]at h<;>(try simp at h)<;>(try subst h)<;>(try(cases hr with|eU _ _ hr=>exact both (hr.frame (fun _ _=>rfl) hD) rfl))<;>(try(intros;simp_all))
theorem iR:∀{n:Nat} {l r:List AV},ew g n l=some r->r.length=l.length/\∀(j:Nat) (b:AV),r[j]? =some b->∃a,l[j]? =some a/\gn g n a=some b
 |n,[],r,h=>by
  rw[ew]at h;simp at h;subst h;simp
 |n,a::l,r,h=>by
  rw[ew]at h
  split at h
  ·rename_i b hb
   simp only[Option.map_eq_some_iff]at h
   obtain⟨r',hr,rfl⟩:=h
   obtain⟨h1,h2⟩:=iR hr
   refine⟨by simp[h1],fun j c hj=>?_⟩
   cases j with
   |zero=>simp at hj;subst hj;exact⟨a,rfl,hb⟩
   |succ j=>simp at hj ⊢;exact h2 j c hj
  ·simp at h
theorem tq:∀{n:Nat} {l r:List (List AV)},gU g n l=some r->r.length=l.length/\∀(j:Nat) (b:List AV),r[j]? =some b->∃a,l[j]? =some a/\ew g n a=some b
 |n,[],r,h=>by
  rw[gU]at h;simp at h;subst h;simp
 |n,a::l,r,h=>by
  rw[gU]at h
  split at h
  ·rename_i b hb
   simp only[Option.map_eq_some_iff]at h
   obtain⟨r',hr,rfl⟩:=h
   obtain⟨h1,h2⟩:=tq hr
   refine⟨by simp[h1],fun j c hj=>?_⟩
   cases j with
   |zero=>simp at hj;subst hj;exact⟨a,rfl,hb⟩
   |succ j=>simp at hj ⊢;exact h2 j c hj
  ·simp at h
theorem FJ (Cm:∀id row,g id=some row->row.w=true->∃B,ι id=some B/\ia P w D ι B row/\D2 B.b):∀(n:Nat) (a:AV) (u:Value) (r:AV),dj P w D ι a u->gn g n a=some r->dj P w D2 ι2 r u/\(a.cell=true->jw P w D2 r u/\r.cell=true):=by
 intro n
 induction n with
 |zero=>intro a u r _ h;rw[gn]at h;simp at h
 |succ n ih=>
  intro a u r hr h
  have both:∀{r:AV},jw P w D2 r u->r.cell=true->dj P w D2 ι2 r u/\(a.cell=true->jw P w D2 r u/\r.cell=true):=fun h1 h2=>⟨.eU _ _ h1,fun _=>⟨h1,h2⟩⟩
  cases a with
  |map id m=>rw[gn]at h<;>simp_all
  |qZ id=>rw[gn]at h<;>simp_all
  |own id off len=>
   rw[gn]at h
   split at h
   ·rename_i row hg
    split at h
    ·rename_i hw
     split at h
     ·rename_i hle
      simp only[Option.map_eq_some_iff]at h
      obtain⟨rows,rq,rfl⟩:=h
      obtain⟨B,hB,R,Na⟩:=Cm id row hg hw
      obtain⟨o,cap,B',rfl,dJ,h1,h2,h3,h4,hk⟩:=iu hr
      rw[hB]at dJ;injection dJ with dJ;subst dJ
      replace R:=R.row hk
      obtain⟨l1,l2⟩:=tq rq
      have hlen:rows.length=len:=by rw[l1];simp;omega
      by_cases h0:rows=[]
      ·subst h0
       simp at hlen;subst hlen
       exact both (.As _ _ h4) rfl
      ·have hlp:0<len:=by rw[<-hlen];exact List.length_pos_iff.2 h0
       have ho:o=off*B.sz:=by rcases h2 with h2|h2<;>omega
       have src:∀i cs,rows[i]? =some cs->∃c0,row.rows[off+i]? =some c0/\ew g n c0=some cs:=fun i cs hi=>by
        obtain⟨c0,jF,hf⟩:=l2 i cs hi
        rw[List.getElem?_take]at jF
        split at jF
        ·rw[List.getElem?_drop]at jF;exact⟨c0,jF,hf⟩
        ·simp at jF
       have cell:∀i j,i<len->j<row.sz->∃c0 a0 v,row.rows[off+i]? =some c0/\c0[j]? =some a0/\w.cell? ⟨B.b,o+(i*row.sz+j),none⟩=some v/\dj P w D ι a0 v:=fun i j hi hj=>by
        have qL:off+i<row.rows.length:=by omega
        have e1:=List.getElem?_eq_getElem qL
        have J0:j<row.rows[off+i].length:=by rw[R.len _ (List.getElem_mem qL)];exact hj
        obtain⟨v,hv,lv⟩:=R.at_ _ _ _ _ e1 (List.getElem?_eq_getElem J0)
        refine⟨_,_,v,e1,List.getElem?_eq_getElem J0,?_,lv⟩
        rw[ho,R.sz,<-hv]
        congr 2
        rw[Nat.add_mul];omega
       refine both (.sl rows B.b o len cap row.sz (fun i j=>(w.cell? ⟨B.b,o+(i*row.sz+j),none⟩).getD undef) hlen h1 h4 Na (fun cs du=>?_) (fun cs du b hb=>?_) (fun i j hi hj=>?_) (fun i j cs b hi hj=>?_)) rfl
       ·obtain⟨i,hi,rfl⟩:=List.getElem_of_mem du
        obtain⟨c0,jF,hf⟩:=src i _ (List.getElem?_eq_getElem hi)
        rw[(iR hf).1];exact R.len c0 (List.mem_of_getElem? jF)
       ·obtain⟨i,hi,rfl⟩:=List.getElem_of_mem du
        obtain⟨c0,jF,hf⟩:=src i _ (List.getElem?_eq_getElem hi)
        obtain⟨j,hj,rfl⟩:=List.getElem_of_mem hb
        obtain⟨a0,kZ,FQ⟩:=(iR hf).2 j _ (List.getElem?_eq_getElem hj)
        obtain⟨v,_,lv⟩:=R.at_ _ _ _ _ jF kZ
        exact((ih _ _ _ lv FQ).2 (R.flat c0 (List.mem_of_getElem? jF) a0 (List.mem_of_getElem? kZ))).2
       ·obtain⟨c0,a0,v,_,_,hv,_⟩:=cell i j hi hj
        simp only[hv,Option.getD_some]
       ·obtain⟨c0,jF,hf⟩:=src i cs hi
        obtain⟨a0,kZ,FQ⟩:=(iR hf).2 j b hj
        have nI:i<len:=by rw[<-hlen];exact(List.getElem?_eq_some_iff.1 hi).1
        have gV:j<row.sz:=by rw[<-R.len c0 (List.mem_of_getElem? jF)];exact(List.getElem?_eq_some_iff.1 kZ).1
        obtain⟨c1,a1,v,e1,e2,hv,lv⟩:=cell i j nI gV
        rw[jF]at e1;injection e1 with e1;subst e1
        rw[kZ]at e2;injection e2 with e2;subst e2
        simp only[hv,Option.getD_some]
        exact((ih _ _ _ lv FQ).2 (R.flat c0 (List.mem_of_getElem? jF) a0 (List.mem_of_getElem? kZ))).1
     ·simp at h
    ·simp at h
   ·simp at h
  |ptr id i off=>
   rw[gn]at h
   split at h
   ·rename_i row hg
    split at h
    ·rename_i hw
     split at h
     ·rename_i c0 jF
      simp only[Option.map_eq_some_iff]at h
      obtain⟨cs,du,rfl⟩:=h
      obtain⟨B,hB,R,Na⟩:=Cm id row hg hw
      obtain⟨B',rfl,dJ,hk⟩:=jr hr
      rw[hB]at dJ;injection dJ with dJ;subst dJ
      replace R:=R.row hk
      obtain⟨l1,l2⟩:=iR du
      have at_:∀j b,cs[j]? =some b->∃a0 v,w.cell? ⟨B.b,i*B.sz+off+j,none⟩=some v/\dj P w D ι a0 v/\a0.cell=true/\gn g n a0=some b:=fun j b hj=>by
       obtain⟨a0,kZ,hf⟩:=l2 j b hj
       rw[List.getElem?_drop]at kZ
       obtain⟨v,hv,lv⟩:=R.at_ _ _ _ _ jF kZ
       refine⟨a0,v,?_,lv,R.flat c0 (List.mem_of_getElem? jF) a0 (List.mem_of_getElem? kZ),hf⟩
       rw[R.sz,Nat.add_assoc];exact hv
      refine both (.di cs B.b _ (fun j=>(w.cell? ⟨B.b,i*B.sz+off+j,none⟩).getD undef) Na (fun b hb=>?_) (fun j hj=>?_) (fun j b hj=>?_)) rfl
      ·obtain⟨j,hj,rfl⟩:=List.getElem_of_mem hb
       obtain⟨a0,v,_,lv,hc,hf⟩:=at_ j _ (List.getElem?_eq_getElem hj)
       exact((ih _ _ _ lv hf).2 hc).2
      ·obtain⟨a0,v,hv,_⟩:=at_ j _ (List.getElem?_eq_getElem hj)
       simp only[hv,Option.getD_some]
      ·obtain⟨a0,v,hv,lv,hc,hf⟩:=at_ j b hj
       simp only[hv,Option.getD_some]
       exact((ih _ _ _ lv hf).2 hc).1
     ·simp at h
    ·simp at h
   ·simp at h
  |agg cs=>
   rw[gn]at h
   simp only[Option.map_eq_some_iff]at h
   obtain⟨r',nS,rfl⟩:=h
   obtain⟨vs,f,rfl,h1,h2,h3,h4⟩:=iP hr
   obtain⟨l1,l2⟩:=iR nS
   have hI:jw P w D2 (.agg r') (.agg vs):=.agg r' vs f (by rw[h1,l1]) (fun b hb=>by
    obtain⟨j,hj,rfl⟩:=List.getElem_of_mem hb
    obtain⟨a0,kZ,hf⟩:=l2 j _ (List.getElem?_eq_getElem hj)
    exact((ih _ _ _ (h4 j a0 kZ) hf).2 (h2 a0 (List.mem_of_getElem? kZ))).2) (fun j hj=>h3 j (by rw[<-l1];exact hj)) (fun j b hj=>by
    obtain⟨a0,kZ,hf⟩:=l2 j b hj
    exact((ih _ _ _ (h4 j a0 kZ) hf).2 (h2 a0 (List.mem_of_getElem? kZ))).1)
   exact⟨.eU _ _ hI,fun hc=>by simp[AV.cell]at hc⟩
  |iO cs=>
   rw[gn]at h
   simp only[Option.map_eq_some_iff]at h
   obtain⟨r',nS,rfl⟩:=h
   obtain⟨vs,f,rfl,h1,h3,h4⟩:=uB hr
   obtain⟨l1,l2⟩:=iR nS
   exact⟨.iO r' vs f (by rw[h1,l1]) (fun j hj=>h3 j (by rw[<-l1];exact hj)) (fun j b hj=>by
    obtain⟨a0,kZ,hf⟩:=l2 j b hj
    exact(ih _ _ _ (h4 j a0 kZ) hf).1),fun hc=>by simp[AV.cell]at hc⟩
  |fn f de=>rw[gn]at h<;>(try simp at h)<;>(try(intros;simp_all))
  |int k m=>rw[gn]at h<;>(try simp at h)<;>(try subst h)<;>(try(rw[dz hr];exact⟨.eU _ _ (.int _ _),fun _=>⟨.int _ _,rfl⟩⟩))<;>(try(intros;simp_all))
  |bool b=>rw[gn]at h<;>(try simp at h)<;>(try subst h)<;>(try(rw[fa hr];exact⟨.eU _ _ (.bool _),fun _=>⟨.bool _,rfl⟩⟩))<;>(try(intros;simp_all))
  |str b=>rw[gn]at h<;>(try simp at h)<;>(try subst h)<;>(try(rw[fC hr];exact⟨.eU _ _ (.str _),fun _=>⟨.str _,rfl⟩⟩))<;>(try(intros;simp_all))
  |bq=>rw[gn]at h<;>(try simp at h)<;>(try subst h)<;>(try(rw[jZ hr];exact⟨.eU _ _ .bq,fun _=>⟨.bq,rfl⟩⟩))<;>(try(intros;simp_all))
  |iT=>rw[gn]at h<;>(try simp at h)<;>(try subst h)<;>(try(rw[wq hr];exact⟨.eU _ _ .iT,fun _=>⟨.iT,rfl⟩⟩))<;>(try(intros;simp_all))
  |je=>rw[gn]at h<;>(try simp at h)<;>(try subst h)<;>(try(rw[BY hr];exact⟨.eU _ _ .je,fun _=>⟨.je,rfl⟩⟩))<;>(try(intros;simp_all))
  |tH f de=>rw[gn]at h<;>(try simp at h)<;>(try(intros;simp_all))
  |gJ=>rw[gn]at h<;>(try simp at h)<;>(try subst h)<;>(try(cases hr with|eU _ _ hr=>cases hr;exact both .gJ rfl))<;>(try(intros;simp_all))
  |sl rows=>rw[gn]at h<;>(try simp at h)<;>(try(intros;simp_all))
  |di cs=>rw[gn]at h<;>(try simp at h)<;>(try(intros;simp_all))
end
end Go.Proofs.YtgoelphibofcmaaGreat.V

namespace Go.Proofs.YtgoelphibofcmaaGreat.V
open Go.RowKit
variable {P:Program} {w w':World} {D D':Nat->Prop} {ι ι':Names}
section
variable {g:Rows} {hs:Nat} {env:Env} {a:Act} {o:Oper} {id:Id} {v:AV}
theorem gi.GQ (S:gi P hs D ι g w) {i:Id} {r r':Row} {B:r8} {ob:Obj} (hid:g i=some r) (hw:r.w=true) (hB:ι i=some B)
  (hR:(∀a v,dj P w D ι a v->dj P {w with heap:=w.heap.setIfInBounds B.b ob} D ι a v)->(w.heap.setIfInBounds B.b ob)[B.b]? =some ob->ia P {w with heap:=w.heap.setIfInBounds B.b ob} D ι B r'):
  gi P hs D ι (bK g i r') {w with heap:=w.heap.setIfInBounds B.b ob}/\Step hs D ι w D ι {w with heap:=w.heap.setIfInBounds B.b ob}:=by
 obtain⟨B0,A9,R,kh,mm⟩:=S.row i r hid
 rw[hB]at A9;injection A9 with A9;subst A9
 have other:∀b,b≠B.b->(w.heap.setIfInBounds B.b ob)[b]? =w.heap[b]? :=fun b hb=>by simp[Ne.symm hb]
 have hd:∀b,D b->(w.heap.setIfInBounds B.b ob)[b]? =w.heap[b]? :=fun b hb=>other b (by rintro rfl;exact mm hw hb)
 have hr:∀a v,dj P w D ι a v->dj P {w with heap:=w.heap.setIfInBounds B.b ob} D ι a v:=fun a v h=>h.frame hd (fun _ h=>h) (fun _ _ h=>h)
 refine⟨⟨by simpa using S.lo,fun b hb=>by simpa using S.dead b hb,fun j q h=>?_,fun j j' q q' C C' h h' Qk hC zl he=>?_⟩,⟨⟨rfl,rfl,rfl,by simp,fun k hk=>other k (by have:=kh hw;omega)⟩,hd,fun _ h=>h,fun _ _ h=>h,fun _ h=>.inl h⟩⟩
 ·unfold bK at h
  split at h
  ·rename_i e
   subst e
   injection h with h;subst h
   exact⟨B,hB,hR hr (by simp[R.lt]),fun _=>kh hw,fun _=>mm hw⟩
  ·rename_i e
   obtain⟨C,hC,RC,k1,k2⟩:=S.row j q h
   refine⟨C,hC,RC.frame (other C.b (fun L6=>e ?_)) hr,k1,k2⟩
   exact(S.inj i j r q B C hid h hw hB hC L6.symm).symm
 ·unfold bK at h h'
  have get:∀j p,(if j=i then some r' else g j)=some p->∃p0,g j=some p0/\(p.w=true->p0.w=true):=fun j p hp=>by
   split at hp
   ·rename_i e;subst e;injection hp with hp;subst hp;exact⟨r,hid,fun _=>hw⟩
   ·exact⟨p,hp,fun h=>h⟩
  obtain⟨p,hp,O1⟩:=get _ _ h
  obtain⟨p',ND,_⟩:=get _ _ h'
  exact S.inj j j' p p' C C' hp ND (O1 Qk) hC zl he
theorem Ew {s:TS} {x y:AV} {u v:Value} (he:fA s x y=some true) (hx:dj P w D ι x u) (hy:dj P w D ι y v):u=v/\∀n,Instr.sameBits n u v=true:=by
 unfold fA at he
 split at he
 ·split at he
  ·rename_i hk
   subst hk
   simp at he;subst he
   rw[dz hx,dz hy]
   exact⟨rfl,fun n=>by cases n<;>simp[Instr.sameBits]⟩
  ·cases he
 ·simp at he;subst he
  rw[fa hx,fa hy]
  exact⟨rfl,fun n=>by cases n<;>simp[Instr.sameBits]⟩
 ·simp at he;subst he
  rw[fC hx,fC hy]
  exact⟨rfl,fun n=>by cases n<;>simp[Instr.sameBits,Hs]⟩
 ·cases he
theorem AU {n:Nat}:∀{ts:List TS} {xs ys:List AV} {vs us:List Value},eS ts xs ys=some true->vs.length=xs.length->us.length=ys.length->(∀(j:Nat) (a:AV),xs[j]? =some a->∃u,vs[j]? =some u/\dj P w D ι a u)->(∀(j:Nat) (a:AV),ys[j]? =some a->∃u,us[j]? =some u/\dj P w D ι a u)->
  us.length=vs.length/\(us.zip vs).all (fun p=>Instr.sameBits n p.1 p.2)=true
 |[],[],[],vs,us,_,h1,h2,_,_=>by
  cases vs<;>cases us<;>simp_all
 |[],x::xs,ys,vs,us,h,_,_,_,_=>by simp[eS]at h
 |[],[],y::ys,vs,us,h,_,_,_,_=>by simp[eS]at h
 |t::ts,[],ys,vs,us,h,_,_,_,_=>by simp[eS]at h
 |t::ts,x::xs,[],vs,us,h,_,_,_,_=>by simp[eS]at h
 |t::ts,x::xs,y::ys,[],us,h,h1,_,_,_=>by simp at h1
 |t::ts,x::xs,y::ys,v::vs,[],h,_,h2,_,_=>by simp at h2
 |t::ts,x::xs,y::ys,v::vs,u::us,h,h1,h2,hx,hy=>by
  unfold eS at h
  split at h
  ·rename_i a b ha hb
   simp only[Option.some.injEq,Bool.and_eq_true]at h
   obtain⟨rfl,rfl⟩:=h
   obtain⟨v',nL,rv⟩:=hx 0 x rfl
   obtain⟨u',EO,ru⟩:=hy 0 y rfl
   simp at nL EO;subst nL;subst EO
   obtain⟨e1,e2⟩:=Ew ha rv ru
   obtain⟨q1,q2⟩:=AU (n:=n) hb (by simpa using h1) (by simpa using h2) (fun j a hj=>by simpa using hx (j+1) a (by simpa using hj)) (fun j a hj=>by simpa using hy (j+1) a (by simpa using hj))
   refine⟨by simp[q1],?_⟩
   simp only[List.zip_cons_cons,List.all_cons,q2,Bool.and_true]
   rw[<-e1]
   have:=e2 n
   rw[<-e1]at this
   exact this
  ·cases h
theorem BM {m:MK} {key:List AV}:∀{rows:List (List AV)} {i j:Nat},fZ m key rows i=some (some j)->∃cs,i<=j/\rows[j-i]? =some cs/\eS m.ts key (cs.take m.ks)=some true
 |[],i,j,h=>by simp[fZ]at h
 |cs::rows,i,j,h=>by
  unfold fZ at h
  split at h
  ·rename_i hq
   simp at h;subst h
   exact⟨cs,Nat.le_refl _,by simp,hq⟩
  ·obtain⟨c,h1,h2,h3⟩:=BM h
   exact⟨c,by omega,by rw[show j-i=(j-(i+1))+1 by omega];simpa using h2,h3⟩
  ·cases h
theorem v7 {m:MK} {k:AV} {rows:List (List AV)} {fi:Option Nat} (h:fP m k rows=some fi):k.isAgg=m.ka/\k.cells.length=m.ks/\(k.cells.all AV.cell=true)/\fZ m k.cells rows 0=some fi:=by
 unfold fP at h
 split at h
 ·rename_i hc;exact⟨hc.1,hc.2.1,hc.2.2,h⟩
 ·cases h
theorem I6 {m:MK} {k y:AV} (h1:k.isAgg=m.ka) (h2:k.cells.length=m.ks):part m.ka m.ks (k.cells++[y])=some k/\(k.cells++[y])[m.ks]? =some y:=by
 refine⟨?_,by rw[List.getElem?_append_right (by omega),h2,Nat.sub_self];rfl⟩
 cases hk:m.ka with
 |false=>
  rw[hk]at h1
  rw[u5 h1];rfl
 |true=>
  rw[hk]at h1
  cases k<;>simp[AV.isAgg]at h1
  rename_i cs
  simp only[AV.cells]at h2 ⊢
  simp only[part,if_true]
  rw[if_pos (by simp;omega),<-h2,List.take_left']
  rfl
theorem stays {k:TypeId} {m:MK} (hK:Eh P k m) {key kv:AV} {u BT:Value} {cs:List AV} (h1:key.isAgg=m.ka) (hr:dj P w D ι key u) (hp:part m.ka m.ks cs=some kv) (ho:dj P w D ι kv BT) (he:eS m.ts key.cells (cs.take m.ks)=some true):(Instr.keyThatStays BT u).run P w=.ok u w:=by
 have hs:Instr.sameBits 10000 BT u=true:=by
  rcases hK with⟨s,rfl,hs⟩|⟨fs,ts,rfl,rm,xz,eC,ef⟩
  ·rw[u5 h1]at he
   cases cs with
   |nil=>simp[part]at hp
   |cons c l=>
    simp[part]at hp;subst hp
    simp only[MK.ks,List.length_cons,List.length_nil,Nat.zero_add,List.take_succ_cons,List.take_zero,eS]at he
    cases hq:fA s key c with
    |none=>rw[hq]at he;simp at he
    |some b=>
     rw[hq]at he;simp at he;subst he
     obtain⟨e1,e2⟩:=Ew hq hr ho
     rw[<-e1]
     have:=e2 10000
     rwa [<-e1]at this
  ·cases key<;>simp[AV.isAgg]at h1
   rename_i ks
   simp only[part,if_true]at hp
   split at hp
   ·simp only[Option.some.injEq]at hp;subst hp
    obtain⟨vs,rfl,n1,r1⟩:=rO hr
    obtain⟨us,rfl,n2,r2⟩:=rO ho
    obtain⟨q1,q2⟩:=AU (n:=9999) (vs:=vs.toList) (us:=us.toList) he (by simpa[AV.cells]using n1) (by simpa using n2) (fun j a hj=>by simpa using r1 j a hj) (fun j a hj=>by simpa using r2 j a hj)
    simp only[Instr.sameBits,Bool.and_eq_true,beq_iff_eq]
    exact⟨by simpa using q1,q2⟩
   ·cases hp
 simp[Instr.keyThatStays,hs]
theorem Jk {es:Array MapEntry} {clock:Nat} (h:MD es clock) (k v:Value):MD (es.push ⟨k,v,clock⟩) (clock+1):=by
 refine⟨fun x hx=>?_,?_⟩
 ·simp only[Array.toList_push,List.mem_append,List.mem_singleton]at hx
  rcases hx with hx|rfl
  ·have:=h.1 x hx;omega
  ·exact Nat.lt_succ_self _
 ·simp only[Array.toList_push,List.map_append,List.map_cons,List.map_nil]
  refine List.nodup_append.2 ⟨h.2,by simp,fun a ha b hb=>?_⟩
  obtain⟨x,hx,rfl⟩:=List.mem_map.1 ha
  simp at hb;subst hb
  have:=h.1 x hx;omega
theorem DX {es:Array MapEntry} {clock:Nat} (h:MD es clock) (j:Nat) (k v:Value):MD (es.modify j fun e=>{e with key:=k,val:=v}) clock:=by
 have e:(es.modify j fun e=>{e with key:=k,val:=v}).toList.map (·.born)=es.toList.map (·.born):=by
  refine List.ext_getElem? fun i=>?_
  simp only[List.getElem?_map,Array.getElem?_toList,Array.getElem?_modify]
  split
  ·cases es[i]? <;>rfl
  ·rfl
 refine⟨fun x hx=>?_,by rw[e];exact h.2⟩
 have hb:x.born∈(es.modify j fun e=>{e with key:=k,val:=v}).toList.map (·.born):=List.mem_map_of_mem hx
 rw[e]at hb
 obtain⟨y,hy,hyb⟩:=List.mem_map.1 hb
 rw[<-hyb];exact h.1 y hy
theorem GD {es:Array MapEntry} {clock:Nat} (h:MD es clock) {j:Nat} (hj:j<es.size):MD (es.eraseIdxIfInBounds j) clock:=by
 have e:(es.eraseIdxIfInBounds j).toList=es.toList.eraseIdx j:=by
  unfold Array.eraseIdxIfInBounds
  rw[dif_pos hj,Array.toList_eraseIdx]
 refine⟨fun x hx=>h.1 x ((List.eraseIdx_sublist _ _).subset (by rwa [e]at hx)),?_⟩
 rw[e]
 exact((List.eraseIdx_sublist es.toList j).map (·.born)).nodup h.2
theorem A4 {k y:AV} (h1:k.cells.all AV.cell=true) (h2:y.cell=true):∀a∈k.cells++[y],a.cell=true:=fun a ha=>by
 rcases List.mem_append.1 ha with ha|ha
 ·exact List.all_eq_true.1 h1 a ha
 ·rw[List.mem_singleton.1 ha];exact h2
theorem MX {t:TypeId} {x k y:Operand} {m:MK} {z:K} {x' k' y':O} {g':Rows} (S:gi P hs D ι g w) (E:cC P w D ι env a) (ho:o.op=.mapUpdate t x k y∨o.op=.insert t x k y) (hc:su P t=some (m,z)) (hx:cO P x=some x') (hk:cO P k=some k') (hy:cO P y=some y')
  (hv:bz (.set m) [da env x',da env k',da env y'] g=some g'):Cx P hs a o w D ι id .undef g':=by
 obtain⟨kt,e,i,zv,ht,hi,qx,Rz,hK⟩:=qV hc
 simp only[bz,Option.bind_eq_some_iff]at hv
 obtain⟨p,hp,fi,Ia,hv⟩:=hv
 split at hv
 ·rename_i hcond
  obtain⟨hw,hyc,_⟩:=hcond
  simp only[Option.some.injEq]at hv;subst hv
  obtain⟨B,hu,hg,hB,uu,es,clock,hb,fe,hlen,hM⟩:=zH S (dn E hx) hp
  have rk:=dn E hk
  have ry:=dn E hy
  obtain⟨JU,res,hf,hF⟩:=vm (B:=B) hK rk fe hM Ia
  obtain⟨k1,k2,k3,k4⟩:=v7 Ia
  obtain⟨B',dJ,R,_⟩:=S.row p.1 p.2 hg
  rw[hB]at dJ;injection dJ with dJ;subst dJ
  obtain⟨pk1,pk2⟩:=I6 (y:=da env y') k1 k2
  have fu:(getObj B.b).run P w=.ok (.map es clock) w:=MapKept.run_getObj_map hb
  rcases hF with⟨rfl,rfl⟩|⟨j,en,rfl,he,rfl⟩
  ·have nJ:=S.GQ (ob:=.map (es.push ⟨a.eval k,a.eval y,clock⟩) (clock+1)) (r':={p.2 with rows:=dy p.2.rows ((da env k').cells++[da env y']) none}) hg hw hB fun hr kE=>⟨R.sz,fun cs du=>?_,fun w8=>(by rw[uu]at w8;cases w8),fun m' Bh=>?_,fun c hc=>(by rw[uu]at hc;cases hc)⟩
   ·refine⟨undef,_,ι,.inr ⟨?_,rfl⟩,nJ.2,nJ.1,dj.undef,fun _ _=>rfl⟩
    rcases ho with ho|ho<;>
    ·simp only[execOp,ho,Instr.mapUpdate,hu,Sem.run_bind,run_underlying ht,Result.andThen_ok,fu,JU,hf,MapKept.run_setObj_map _ hb,Sem.run_pure]
   ·rcases List.mem_append.1 du with h|h
    ·exact R.flat cs h
    ·rw[List.mem_singleton.1 h];exact A4 k3 hyc
   ·rw[uu]at Bh;simp only[Option.some.injEq,BK.map.injEq]at Bh;subst Bh
    refine⟨(R.map m uu).1,_,_,kE,by simp[dy,fe],⟨fun cs du=>?_,Jk hlen.2 _ _⟩,fun q cs hq=>?_⟩
    ·rcases List.mem_append.1 du with h|h
     ·exact hlen.1 cs h
     ·rw[List.mem_singleton.1 h];simp[k2]
    ·rcases Nat.lt_or_ge q p.2.rows.length with eo|qt
     ·simp only[dy]at hq
      rw[List.getElem?_append_left eo]at hq
      obtain⟨en,kv,vv,q1,q2,q3,q4,q5⟩:=hM q cs hq
      exact⟨en,kv,vv,by rw[Array.getElem?_push_lt (by omega)];rw[Array.getElem?_eq_getElem (by omega)]at q1;simpa using q1,q2,q3,hr _ _ q4,hr _ _ q5⟩
     ·simp only[dy]at hq
      rw[List.getElem?_append_right qt]at hq
      have hq0:q=p.2.rows.length:=by
       have:=(List.getElem?_eq_some_iff.1 hq).1
       simp at this;omega
      subst hq0
      simp at hq;subst hq
      exact⟨⟨a.eval k,a.eval y,clock⟩,_,_,by rw[<-fe];simp,pk1,pk2,hr _ _ rk,hr _ _ ry⟩
  ·simp only[Nat.zero_add]at k4 Ia hf ⊢
   obtain⟨OM,_,KD,heq⟩:=BM k4
   simp only[Nat.sub_zero]at KD
   obtain⟨Sm,kv,vv,q1,q2,_,q4,_⟩:=hM j OM KD
   have JW:Sm=en:=by
    have h1:es.toList[j]? =some Sm:=by simpa using q1
    rw[he]at h1;injection h1 with h1;exact h1.symm
   subst JW
   have eC:=stays (w:=w) hK k1 rk q2 q4 heq
   have nJ:=S.GQ (ob:=.map (es.modify j fun e=>{e with key:=a.eval k,val:=a.eval y}) clock) (r':={p.2 with rows:=dy p.2.rows ((da env k').cells++[da env y']) (some j)}) hg hw hB fun hr kE=>⟨R.sz,fun cs du=>?_,fun w8=>(by rw[uu]at w8;cases w8),fun m' Bh=>?_,fun c hc=>(by rw[uu]at hc;cases hc)⟩
   ·refine⟨undef,_,ι,.inr ⟨?_,rfl⟩,nJ.2,nJ.1,dj.undef,fun _ _=>rfl⟩
    rcases ho with ho|ho<;>
    ·simp only[execOp,ho,Instr.mapUpdate,hu,Sem.run_bind,run_underlying ht,Result.andThen_ok,fu,JU,hf,q1,Option.map_some,Option.getD_some,eC,MapKept.run_setObj_map _ hb,Sem.run_pure]
   ·rcases List.mem_or_eq_of_mem_set du with h|h
    ·exact R.flat cs h
    ·rw[h];exact A4 k3 hyc
   ·rw[uu]at Bh;simp only[Option.some.injEq,BK.map.injEq]at Bh;subst Bh
    have gV:=(List.getElem?_eq_some_iff.1 KD).1
    refine⟨(R.map m uu).1,_,_,kE,by simp[dy,fe],⟨fun cs du=>?_,DX hlen.2 _ _ _⟩,fun q cs hq=>?_⟩
    ·rcases List.mem_or_eq_of_mem_set du with h|h
     ·exact hlen.1 cs h
     ·rw[h];simp[k2]
    ·simp only[dy,List.getElem?_set]at hq
     split at hq
     ·rename_i OS
      subst OS
      (try rw[if_pos gV]at hq)
      injection hq with hq;subst hq
      exact⟨{Sm with key:=a.eval k,val:=a.eval y},_,_,by rw[Array.getElem?_modify];simp[q1],pk1,pk2,hr _ _ rk,hr _ _ ry⟩
     ·rename_i OS
      obtain⟨en,kv,vv,q1,q2,q3,q4,q5⟩:=hM q cs hq
      exact⟨en,kv,vv,by rw[Array.getElem?_modify];simp[OS,q1],q2,q3,hr _ _ q4,hr _ _ q5⟩
 ·cases hv
theorem MV {t t':TypeId} {x k:Operand} {m:MK} {z:K} {x' k':O} {g':Rows} (S:gi P hs D ι g w) (E:cC P w D ι env a) (ho:o.op=.call {callee:=.builtin .delete,args:= #[x,k],argTypes:= #[t,t']}) (hc:su P t=some (m,z)) (hx:cO P x=some x') (hk:cO P k=some k')
  (hv:bz (.del m) [da env x',da env k'] g=some g'):Cx P hs a o w D ι id .undef g':=by
 obtain⟨kt,e,i,zv,ht,hi,qx,Rz,hK⟩:=qV hc
 simp only[bz,Option.bind_eq_some_iff]at hv
 obtain⟨p,hp,fi,Ia,hv⟩:=hv
 split at hv
 ·rename_i hw
  simp only[Option.some.injEq]at hv;subst hv
  obtain⟨B,hu,hg,hB,uu,es,clock,hb,fe,hlen,hM⟩:=zH S (dn E hx) hp
  have rk:=dn E hk
  obtain⟨JU,res,hf,hF⟩:=vm (B:=B) hK rk fe hM Ia
  obtain⟨k1,k2,k3,k4⟩:=v7 Ia
  obtain⟨B',dJ,R,_⟩:=S.row p.1 p.2 hg
  rw[hB]at dJ;injection dJ with dJ;subst dJ
  have fu:(getObj B.b).run P w=.ok (.map es clock) w:=MapKept.run_getObj_map hb
  have go:∀ob,(Builtin.delete_ #[t,t'] o.type #[a.eval x,a.eval k]).run P w=.ok (.tuple #[]) {w with heap:=w.heap.setIfInBounds B.b ob}->(execOp a.eval o).run P w=.ok (.value undef) {w with heap:=w.heap.setIfInBounds B.b ob}:=fun ob h=>by
   simp only[execOp,ho,resolve,Sem.run_bind,Sem.run_pure,Result.andThen_ok,invoke,builtin,Array.map]
   simp[h,undef]
  rcases hF with⟨rfl,rfl⟩|⟨j,en,rfl,he,rfl⟩
  ·have nJ:=S.GQ (ob:=.map es clock) (r':={p.2 with rows:=dC p.2.rows none}) hg hw hB fun hr kE=>⟨R.sz,R.flat,fun w8=>(by rw[uu]at w8;cases w8),fun m' Bh=>?_,fun c hc=>(by rw[uu]at hc;cases hc)⟩
   ·refine⟨undef,_,ι,.inl (go _ ?_),nJ.2,nJ.1,dj.undef,fun _ _=>rfl⟩
    simp[Builtin.delete_,hu,run_underlying ht,fu,JU,hf,MapKept.run_setObj_map _ hb]
   ·rw[uu]at Bh;simp only[Option.some.injEq,BK.map.injEq]at Bh;subst Bh
    exact⟨(R.map m uu).1,_,_,kE,fe,hlen,fun q cs hq=>by
     obtain⟨en,kv,vv,q1,q2,q3,q4,q5⟩:=hM q cs hq
     exact⟨en,kv,vv,q1,q2,q3,hr _ _ q4,hr _ _ q5⟩⟩
  ·simp only[Nat.zero_add]at hf ⊢
   have gV:j<es.size:=by have:=(List.getElem?_eq_some_iff.1 he).1;simpa using this
   have nJ:=S.GQ (ob:=.map (es.eraseIdxIfInBounds j) clock) (r':={p.2 with rows:=dC p.2.rows (some j)}) hg hw hB fun hr kE=>⟨R.sz,fun cs du=>R.flat cs (List.mem_of_mem_eraseIdx du),fun w8=>(by rw[uu]at w8;cases w8),fun m' Bh=>?_,fun c hc=>(by rw[uu]at hc;cases hc)⟩
   ·refine⟨undef,_,ι,.inl (go _ ?_),nJ.2,nJ.1,dj.undef,fun _ _=>rfl⟩
    simp[Builtin.delete_,hu,run_underlying ht,fu,JU,hf,MapKept.run_setObj_map _ hb]
   ·rw[uu]at Bh;simp only[Option.some.injEq,BK.map.injEq]at Bh;subst Bh
    have he2:∀q,(es.eraseIdxIfInBounds j)[q]? =(es.toList.eraseIdx j)[q]? :=fun q=>by
     unfold Array.eraseIdxIfInBounds
     rw[dif_pos gV,<-Array.getElem?_toList,Array.toList_eraseIdx]
    refine⟨(R.map m uu).1,_,_,kE,by simp[dC,Array.eraseIdxIfInBounds,gV,List.length_eraseIdx,<-fe],⟨fun cs du=>hlen.1 cs (List.mem_of_mem_eraseIdx du),GD hlen.2 gV⟩,fun q cs hq=>?_⟩
    simp only[dC,List.getElem?_eraseIdx]at hq
    split at hq
    ·rename_i eo
     obtain⟨en,kv,vv,q1,q2,q3,q4,q5⟩:=hM q cs hq
     exact⟨en,kv,vv,by rw[he2,List.getElem?_eraseIdx,if_pos eo];simpa using q1,q2,q3,hr _ _ q4,hr _ _ q5⟩
    ·rename_i eo
     obtain⟨en,kv,vv,q1,q2,q3,q4,q5⟩:=hM (q+1) cs hq
     exact⟨en,kv,vv,by rw[he2,List.getElem?_eraseIdx,if_neg eo];simpa using q1,q2,q3,hr _ _ q4,hr _ _ q5⟩
 ·cases hv
end
end Go.Proofs.YtgoelphibofcmaaGreat.V
