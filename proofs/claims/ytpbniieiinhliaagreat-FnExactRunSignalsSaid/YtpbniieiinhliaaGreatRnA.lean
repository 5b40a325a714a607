/- A small language in which the program's functions are read by value: its values, its operations, its code, and how the program's code is brought into it. -/
import Derived.WalkKit
import Derived.WalkSpells
import Derived.WalkLawsBesides
import Derived.Lib.Hide
import Derived.Great.BuildSlice
set_option linter.unusedVariables false
set_option linter.unusedSimpArgs false
namespace Go.Proofs.YtpbniieiinhliaaGreat.V
open Go.RowKit

/-- The name of a row of the function's own: where it is made, and a number. -/
structure Id where
  site : Nat
  ver : Nat
  deriving DecidableEq, Repr

inductive AV where
  | int (k : IntKind) (n : Int)
  | bool (b : Bool)
  | str (s : ByteArray)
  | nils | nilp | nilf
  | sl (rows : List (List AV))
  | own (id : Id) (off len : Nat)
  | ptr (id : Id) (i off : Nat)
  | iptr (cs : List AV)
  | agg (cs : List AV)
  | tup (vs : List AV)
  | fn (f : Nat) (caps : List AV)
  deriving Inhabited

def AV.undef : AV := .tup []
/-- It fits into one cell. -/
def AV.cell : AV → Bool
  | .agg _ | .tup _ => false
  | _ => true
def AV.cells : AV → List AV
  | .agg cs => cs
  | v => [v]

/-- Constants. -/
inductive K where
  | int (k : IntKind) (n : Int)
  | bool (b : Bool)
  | str (l : List UInt8)
  | nils | nilp | nilf
  deriving Repr, DecidableEq
def K.val : K → Value
  | .int k n => .int k n
  | .bool b => .bool b
  | .str l => .string ⟨l.toArray⟩
  | .nils => .slice none 0 0
  | .nilp => .pointer none
  | .nilf => .nilFunc
def K.av : K → AV
  | .int k n => .int k n
  | .bool b => .bool b
  | .str l => .str ⟨l.toArray⟩
  | .nils => .nils
  | .nilp => .nilp
  | .nilf => .nilf
def kOf : Value → Option K
  | .int k n => some (.int k n)
  | .bool b => some (.bool b)
  | .string s => some (.str s.data.toList)
  | .slice none 0 0 => some .nils
  | .pointer none => some .nilp
  | .nilFunc => some .nilf
  | _ => none

inductive O where
  | t (n : Nat)
  | k (c : K)
  | ka (cs : List K)
  | f (n : Nat)
  deriving Repr, DecidableEq

/-- Plain kinds. -/
inductive TS where
  | tI | tB | tS
  deriving Repr, DecidableEq

inductive VOp where
  | mov (x : O)
  | pick (c a b : O)
  | new (zero : List K)
  | box (x : O)
  | build (zero : List K) (parts : List (Nat × Nat × O))
  | bslice (sz len : Nat) (parts : List O)
  | load (agg : Bool) (n : Nat) (a : O)
  | store (n : Nat) (a x : O)
  | chk (x : O)
  | bin (op : BinOp) (k : IntKind) (x y : O)
  | sh (left : Bool) (x y : O)
  | cmpS (op : BinOp) (x y : O)
  | eqS (neg : Bool) (t : TS) (x y : O)
  | eqA (neg : Bool) (ts : List TS) (x y : O)
  | eqN (neg isFn : Bool) (x : O)
  | not (x : O)
  | neg (x : O)
  | conv (k : IntKind) (x : O)
  | convS (x : O)
  | slice (sz : Nat) (x : O) (lo hi : Option O)
  | sliceS (x : O) (lo hi : Option O)
  | faddr (off : Nat) (x : O)
  | field (agg : Bool) (off n : Nat) (x : O)
  | iaddr (sz : Nat) (x i : O)
  | idxS (x i : O)
  | idxA (agg : Bool) (len n : Nat) (x i : O)
  | extract (i : Nat) (x : O)
  | len (x : O)
  | lenS (x : O)
  | append (sz : Nat) (x y : O)
  | copy (sz : Nat) (x y : O)
  | clear (zero : List K) (x : O)
  | mkfn (f : Nat) (caps : List O)
  | mkslice (zero : List K) (len cap : O)
  | call (f : Nat) (args : List O)
  | callv (x : O) (args : List O)
  deriving Repr, DecidableEq

structure VOper where
  dst : Option Nat
  op : VOp
  guard : Option (Nat × Bool)
  site : Nat
  hid : List Nat
  deriving Repr, DecidableEq

/-- Short for printed code. -/
def q (d : Nat) (op : VOp) (s : Nat) : VOper := ⟨some d, op, none, s, []⟩

inductive VC where
  | skip
  | reg (draw : Bool) (ops : List VOper)
  | seq (a b : VC)
  | cond (c : O) (x y : VC)
  | block (id : Nat) (c : VC)
  | loop (c : VC)
  | exit (id : Nat)
  | ret
  | one (o : VOper) (c : VC)
  | both (a b : VC)
  | loc (t s : Nat) (y : O) (c : VC)
  deriving Repr, DecidableEq

inductive VRes where
  | tmp (t : Nat)
  | cell (agg : Bool) (n : Nat) (t : Nat)
  deriving Repr, DecidableEq

structure VFn where
  ntmps : Nat
  nargs : Nat
  body : VC
  res : List VRes
  deriving Repr, DecidableEq

/-! ### From the program's code -/

def callable (P : Program) (f : Nat) : Bool :=
  match P.funcs[f]? with
  | some fn => fn.body.isSome && !(fn.name == "runtime.NumGoroutine")
  | none => false

def cO (P : Program) : Operand → Option O
  | .tmp t => some (.t t)
  | .const (.agg cs) => (cs.toList.mapM kOf).map O.ka
  | .const v => (kOf v).map O.k
  | .global _ => none
  | .func f => if callable P f then some (.f f) else none

/-- A type's zero, flat; whether it is a struct or an array. -/
def cZero (P : Program) (t : TypeId) : Option (List K) :=
  match P.info? t with
  | some i => match i.zero with
    | some v => if v.cells.size = i.size then v.cells.toList.mapM kOf else none
    | none => none
  | none => none
def cSize (P : Program) (t : TypeId) : Option Nat := (P.info? t).map (·.size)
def cAgg (P : Program) (t : TypeId) : Option Bool :=
  match P.underlying t with
  | some (.struct _) | some (.array _ _) => some true
  | some _ => some false
  | none => none
/-- A type's kind for '=='. -/
inductive EqT where
  | sc (t : TS) | ag (ts : List TS)
  deriving Repr, DecidableEq
def scalarT (P : Program) (t : TypeId) : Option TS :=
  match P.underlying t with
  | some .bool => some .tB
  | some (.int _) => some .tI
  | some .string => some .tS
  | _ => none
/-- The fields of a struct, flat: each plain and named, one behind the other. -/
def flatGo (P : Program) (inner : List Field → Option (List TS)) : Nat → List Field → Option (List TS)
  | _, [] => some []
  | off, f :: r =>
    if f.offset = off ∧ f.name ≠ "_" then
      match scalarT P f.type with
      | some t => if cAgg P f.type = some false then (flatGo P inner (off + 1) r).map (t :: ·) else none
      | none => match P.underlying f.type with
        | some (.struct fs) => if !P.stoodInHeld f.type then match inner fs.toList with
          | some ts => if cSize P f.type = some ts.length ∧ ts ≠ [] then (flatGo P inner (off + ts.length) r).map (ts ++ ·) else none
          | none => none else none
        | _ => none
    else none
def flatFields (P : Program) : Nat → Nat → List Field → Option (List TS)
  | 0, _, [] => some []
  | 0, _, _ :: _ => none
  | d + 1, off, fs => flatGo P (flatFields P d 0) off fs
def cEq (P : Program) (t : TypeId) : Option EqT :=
  match scalarT P t with
  | some s => some (.sc s)
  | none => match P.underlying t with
    | some (.struct fs) => if !P.stoodInHeld t && !P.eqGuardType P.depth t then (flatFields P 4 0 fs.toList).map EqT.ag else none
    | _ => none

def cBuild (P : Program) (fs : Array Field) : List (Nat × O) → Option (List (Nat × Nat × O))
  | [] => some []
  | (i, x) :: r => match fs[i]? with
    | some f => match cSize P f.type with
      | some n => (cBuild P fs r).map ((f.offset, n, x) :: ·)
      | none => none
    | none => none

def cParts (P : Program) (ps : Array (Nat × Operand)) : Option (List (Nat × O)) := ps.toList.mapM fun (i, x) => (cO P x).map (i, ·)

def cOpt (P : Program) : Option Operand → Option (Option O)
  | none => some none
  | some x => (cO P x).map some

/-- '==' and '!='. -/
def cEqB (P : Program) (neg : Bool) (t : TypeId) (x y : Operand) : Option VOp :=
  match y with
  | .const (.slice none 0 0) => match P.underlying t with
    | some (.slice _) => (cO P x).map (VOp.eqN neg false)
    | _ => none
  | .const .nilFunc => match P.underlying t with
    | some (.func ..) => (cO P x).map (VOp.eqN neg true)
    | _ => none
  | _ => match cEq P t with
    | some (.sc s) => do pure (.eqS neg s (← cO P x) (← cO P y))
    | some (.ag ts) => do pure (.eqA neg ts (← cO P x) (← cO P y))
    | _ => none
def cBin (P : Program) (op : BinOp) (t : TypeId) (x y : Operand) : Option VOp :=
  match op with
  | .eql => cEqB P false t x y
  | .neq => cEqB P true t x y
  | .shl => do pure (.sh true (← cO P x) (← cO P y))
  | .shr => do pure (.sh false (← cO P x) (← cO P y))
  | op => match P.underlying t with
    | some (.int k) => do pure (.bin op k (← cO P x) (← cO P y))
    | some .string => do pure (.cmpS op (← cO P x) (← cO P y))
    | _ => none

/-- A call. -/
def cCall (P : Program) (c : Call) : Option VOp :=
  match c.callee with
  | .builtin .len => match c.args.toList, c.argTypes.toList with
    | [x], [t] => match P.underlying t with
      | some (.slice _) => (cO P x).map VOp.len
      | some .string => (cO P x).map VOp.lenS
      | _ => none
    | _, _ => none
  | .builtin .append => match c.args.toList, c.argTypes.toList with
    | [x, y], [t, u] => match P.underlying t with
      | some (.slice e) => match cSize P e, cZero P e, P.info? e with
        | some (sz + 1), some _, some i => if i.bytes ≤ 32768 ∧ t = u then do pure (.append (sz + 1) (← cO P x) (← cO P y)) else none
        | _, _, _ => none
      | _ => none
    | _, _ => none
  | .builtin .clear => match c.args.toList, c.argTypes.toList with
    | [x], [t] => match P.underlying t with
      | some (.slice e) => match cSize P e, cZero P e with
        | some (_ + 1), some z => (cO P x).map (VOp.clear z)
        | _, _ => none
      | _ => none
    | _, _ => none
  | .value (.func f) => if callable P f then (c.args.toList.mapM (cO P)).map (VOp.call f) else none
  | .value (.tmp t) => (c.args.toList.mapM (cO P)).map (VOp.callv (.t t))
  | _ => none

/-- One operation. -/
def cOp (P : Program) (o : Op) : Option VOp :=
  match o with
  | .move x | .assign x => (cO P x).map VOp.mov
  | .pick c a b => do pure (.pick (← cO P c) (← cO P a) (← cO P b))
  | .alloc e => (cZero P e).map VOp.new
  | .box _ x => (cO P x).map VOp.box
  | .load t a => do pure (.load (← cAgg P t) (← cSize P t) (← cO P a))
  | .store t a x => do pure (.store (← cSize P t) (← cO P a) (← cO P x))
  | .nilCheck x => (cO P x).map VOp.chk
  | .binOp op t x y _ => cBin P op t x y
  | .unOp .not _ x => (cO P x).map VOp.not
  | .unOp .neg _ x => (cO P x).map VOp.neg
  | .convert s d x => match P.underlying s, P.underlying d with
    | some (.int _), some (.int k) => (cO P x).map (VOp.conv k)
    | some .string, some .string => (cO P x).map VOp.convS
    | _, _ => none
  | .slice t x lo hi none => match P.underlying t with
    | some (.slice e) => do
      pure (.slice (← cSize P e) (← cO P x) (← cOpt P lo) (← cOpt P hi))
    | some .string => do pure (.sliceS (← cO P x) (← cOpt P lo) (← cOpt P hi))
    | _ => none
  | .fieldAddr s x i => match P.underlying s with
    | some (.struct fs) => match fs[i]? with
      | some f => match cSize P f.type with
        | some (_ + 1) => (cO P x).map (VOp.faddr f.offset)
        | _ => none
      | none => none
    | _ => none
  | .field s x i => match P.underlying s with
    | some (.struct fs) => match fs[i]? with
      | some f => do pure (.field (← cAgg P f.type) f.offset (← cSize P f.type) (← cO P x))
      | none => none
    | _ => none
  | .indexAddr t x i => match P.underlying t with
    | some (.slice e) => match cSize P e with
      | some (m + 1) => do pure (.iaddr (m + 1) (← cO P x) (← cO P i))
      | _ => none
    | _ => none
  | .index t x i => match P.underlying t with
    | some .string => do pure (.idxS (← cO P x) (← cO P i))
    | some (.array len e) => do pure (.idxA (← cAgg P e) len (← cSize P e) (← cO P x) (← cO P i))
    | _ => none
  | .extract x i => (cO P x).map (VOp.extract i)
  | .build t ps => match P.underlying t with
    | some (.struct fs) =>
      match cZero P t, cParts P ps with
      | some z, some l =>
        if fs.all (fun f => (P.info? f.type).isSome) then (cBuild P fs l).map (VOp.build z) else none
      | _, _ => none
    | some (.array _ e) =>
      match cZero P t, cParts P ps, cSize P e with
      | some z, some l, some n => some (.build z (l.map fun (i, x) => (i * n, n, x)))
      | _, _, _ => none
    | _ => none
  | .buildSlice t len ps => match P.underlying t with
    | some (.slice e) => match cSize P e, cZero P e, cParts P ps with
      | some (sz + 1), some _, some l =>
        if len * (sz + 1) ≤ 4096 ∧ l.map (·.1) = List.range len then some (.bslice (sz + 1) len (l.map (·.2))) else none
      | _, _, _ => none
    | _ => none
  | .makeFunc (.func f) first caps =>
    if first = #[] ∧ callable P f then (caps.toList.mapM (cO P)).map (VOp.mkfn f) else none
  | .makeSlice t l c => match P.underlying t with
    | some (.slice e) => match cSize P e, cZero P e, P.info? e with
      | some (_ + 1), some z, some i => if i.bytes ≤ 32768 then do pure (.mkslice z (← cO P l) (← cO P c)) else none
      | _, _, _ => none
    | _ => none
  | .call c => cCall P c
  | _ => none

/-! ### Whether a region's order makes no difference -/

/-- What an operation does to the rows: nothing; it looks; it makes a new row; it may write. -/
inductive Cls where
  | pure | look | make | write
  deriving DecidableEq, Repr
def VOp.cls : VOp → Cls
  | .new _ | .box _ | .bslice .. | .mkslice .. => .make
  | .load .. | .iaddr .. | .slice .. | .call .. | .callv .. => .look
  | .store .. | .append .. | .copy .. | .clear .. => .write
  | _ => .pure
def clash : Cls → Cls → Bool
  | .pure, _ | _, .pure => false
  | .write, _ | _, .write => true
  | _, _ => false

/-- Transitive 'before' of each operation, as bits. -/
def befs (ops : Array Oper) : Array Nat := Region.before ops

def makesB : VOp → Bool := fun o => o.cls == .make || o.cls == .write
def VOp.isCall : VOp → Bool
  | .call .. | .callv .. => true
  | _ => false

def cGuard (ops : Array Oper) (o : Oper) : Option (Option (Nat × Bool)) :=
  match o.guard with
  | none => some none
  | some (i, b) => match (ops[i]?).bind (·.dst) with
    | some t => some (some (t, b))
    | none => none

def cOper (P : Program) (ops : Array Oper) (nt site0 : Nat) (draw mk : Bool) (bs : Array Nat) (hidden : List (Nat × Bool)) (j : Nat) (o : Oper) : Option VOper := do
  let v ← cOp P o.op
  let g ← cGuard ops o
  if (o.dst.all fun d => decide (d < nt)) then
    pure { dst := o.dst, op := v, guard := g, site := site0 + j, hid := if draw then (hidden.filter fun (i, m) => m && !(bs.getD j 0).testBit i && (i != j || mk && v.isCall)).map fun (i, _) => site0 + i else [] }
  else none

def allM {α : Type} (f : Nat → Oper → Option α) : List Oper → Nat → Option (List α)
  | [], _ => some []
  | o :: r, j => do pure ((← f j o) :: (← allM f r (j + 1)))

def oSlots : O → List Nat
  | .t n => [n]
  | _ => []
def optSlots : Option O → List Nat
  | some x => oSlots x
  | none => []
def VOp.slots : VOp → List Nat
  | .clear _ x | .mov x | .box x | .load _ _ x | .chk x | .eqN _ _ x | .not x | .neg x | .conv _ x | .convS x | .faddr _ x | .field _ _ _ x | .extract _ x | .len x | .lenS x => oSlots x
  | .pick c a b => oSlots c ++ oSlots a ++ oSlots b
  | .new _ => []
  | .build _ ps => ps.flatMap fun (_, _, x) => oSlots x
  | .bslice _ _ ps => ps.flatMap oSlots
  | .store _ a x => oSlots a ++ oSlots x
  | .bin _ _ x y | .sh _ x y | .cmpS _ x y | .eqS _ _ x y | .eqA _ _ x y | .iaddr _ x y | .idxS x y | .idxA _ _ _ x y | .append _ x y | .copy _ x y | .mkslice _ x y => oSlots x ++ oSlots y
  | .slice _ x lo hi | .sliceS x lo hi => oSlots x ++ optSlots lo ++ optSlots hi
  | .mkfn _ l | .call _ l => l.flatMap oSlots
  | .callv x l => oSlots x ++ l.flatMap oSlots
def VOper.slots (v : VOper) : List Nat := v.op.slots ++ (match v.guard with | some (t, _) => [t] | none => [])

def vapart (x y : VOper) : Bool :=
  (match x.dst with
   | some d => !y.slots.contains d && y.dst != some d
   | none => true) &&
  (match y.dst with
   | some d => !x.slots.contains d
   | none => true)
/-- It makes a row, or may: a call whose own site is hidden from it may yield a row that the caller takes over. -/
def VOper.makes (v : VOper) : Bool := makesB v.op || v.op.isCall && v.hid.contains v.site
def freeV (x y : VOper) : Bool :=
  vapart x y && !clash x.op.cls y.op.cls && (!x.makes || y.hid.contains x.site) && (!y.makes || x.hid.contains y.site) && x.site != y.site
/-- Edges lead back. -/
def edgesOk (ops : Array Oper) : Bool := ops.toList.zipIdx.all fun (o, j) => o.after.all fun e => !Region.binds .any e || decide (e.on < j)
/-- Two operations that no edges order make no difference to each other. -/
def drawOk (ops : Array Oper) (vl : List VOper) (bs : Array Nat) : Bool :=
  edgesOk ops && vl.zipIdx.all fun (y, j) => vl.zipIdx.all fun (x, i) => !(decide (i < j)) || (bs.getD j 0).testBit i || freeV x y

def cRegV (P : Program) (nt site0 : Nat) (ops : Array Oper) (draw mk : Bool) : Option (List VOper) :=
  let bs := if draw then befs ops else #[]
  let hidden := if draw then ops.toList.zipIdx.map fun (o, i) => (i, ((cOp P o.op).map fun v => makesB v || mk && v.isCall).getD false) else []
  match allM (cOper P ops nt site0 draw mk bs hidden) ops.toList 0 with
  | some vl => if !draw || drawOk ops vl bs then some vl else none
  | none => none

/-! ### A region that draws its order, as a tree of the orders that may make a difference -/

def quietB (v : VOper) : Bool := !v.op.isCall && v.op.cls != .write
/-- They come to the same in either order. -/
def freeT (x y : VOper) : Bool := vapart x y && x.op.cls == .pure || freeV x y && quietB x && quietB y
def firstT (ops : Array Oper) (vl : List VOper) (bs : Array Nat) (listed : Array Bool) (i : Nat) : Bool :=
  match vl[i]? with
  | some x => (List.range ops.size).all fun j => listed.getD j false || j == i || (bs.getD j 0).testBit i || (match vl[j]? with | some y => freeT x y | none => false)
  | none => false
/-- An append to a row that was made in the region. -/
def locOf (vl : List VOper) (x : VOper) : Option (Nat × Nat × O) :=
  match x.op, x.guard with
  | .append _ (.t t) y, none => match vl.find? fun v => v.dst == some t && v.op.cls == .make with
    | some v => some (t, v.site, y)
    | none => none
  | _, _ => none
def freeL (s : Nat) (x y : VOper) : Bool := vapart x y && quietB y && y.hid.contains s && y.hid.contains x.site && y.site != s && y.site != x.site
def firstL (ops : Array Oper) (vl : List VOper) (bs : Array Nat) (listed : Array Bool) (i s : Nat) : Bool :=
  match vl[i]? with
  | some x => (List.range ops.size).all fun j => listed.getD j false || j == i || (bs.getD j 0).testBit i || (match vl[j]? with | some y => freeL s x y | none => false)
  | none => false
def locT (ops : Array Oper) (vl : List VOper) (bs : Array Nat) (listed : Array Bool) (i : Nat) : Option (Nat × Nat × Nat × O × VOper) :=
  match vl[i]? with
  | some x => match locOf vl x with
    | some (t, s, y) => if firstL ops vl bs listed i s then some (i, t, s, y, x) else none
    | none => none
  | none => none
def bothL : List VC → Option VC
  | [] => none
  | [c] => some c
  | c :: r => (bothL r).map (VC.both c)
def treeC (ops : Array Oper) (vl : List VOper) (bs : Array Nat) : Nat → Array Bool → Option VC
  | 0, listed =>
    match Region.ready .any ops listed with
    | [] => some (.reg false [])
    | _ :: _ => none
  | n + 1, listed =>
    match Region.ready .any ops listed with
    | [] => some (.reg false [])
    | r :: rs => let rdy := r :: rs
      match rdy.find? (firstT ops vl bs listed) with
      | some i => match vl[i]? with
        | some vo => (treeC ops vl bs n (listed.setIfInBounds i true)).map (VC.one vo)
        | none => none
      | none => match rdy.findSome? (locT ops vl bs listed) with
        | some (i, t, s, y, vo) => (treeC ops vl bs n (listed.setIfInBounds i true)).map fun c => VC.loc t s y (.one vo c)
        | none => match rdy.mapM fun i => (vl[i]?).bind fun vo => (treeC ops vl bs n (listed.setIfInBounds i true)).map (VC.one vo) with
          | some l => bothL l
          | none => none

/-- A region. Mode 1: its calls may yield rows that the caller takes over; mode 2: a tree. -/
def cReg (P : Program) (nt site0 : Nat) (ops : Array Oper) (draw : Bool) (mode : Nat) : Option VC :=
  if draw && mode == 2 then
    match allM (cOper P ops nt site0 true false (befs ops) (ops.toList.zipIdx.map fun (o, i) => (i, ((cOp P o.op).map makesB).getD false))) ops.toList 0 with
    | some vl => treeC ops vl (befs ops) ops.size (Array.replicate ops.size false)
    | none => none
  else (cRegV P nt site0 ops draw (mode == 1)).map (VC.reg draw)

def modeOf (md : List (Nat × Nat)) (id : Nat) : Nat :=
  match md with
  | [] => 0
  | (i, m) :: r => if i = id then m else modeOf r id

def cCode (P : Program) (md : List (Nat × Nat)) (nt fid : Nat) : Code → Option VC
  | .skip => some .skip
  | .region id ops draw => cReg P nt ((fid * 1000 + id) * 1000) ops draw (modeOf md id)
  | .seq a b => do pure (.seq (← cCode P md nt fid a) (← cCode P md nt fid b))
  | .cond c x y => do pure (.cond (← cO P c) (← cCode P md nt fid x) (← cCode P md nt fid y))
  | .block id c => (cCode P md nt fid c).map (VC.block id)
  | .loop c => (cCode P md nt fid c).map VC.loop
  | .exit id => some (.exit id)
  | .ret => some .ret
  | _ => none

def cRes (P : Program) (r : ResultVar) : Option VRes :=
  match r with
  | .tmp t => some (.tmp t)
  | .cell a t => do pure (.cell (← cAgg P t) (← cSize P t) a)

def cFnM (P : Program) (f : Nat) (md : List (Nat × Nat)) : Option VFn :=
  match P.funcs[f]? with
  | some fn => match fn.body with
    | some c => do
      let b ← cCode P md fn.ntmps f c
      let r ← fn.results.toList.mapM (cRes P)
      if fn.params.size + fn.nfree ≤ fn.ntmps then pure { ntmps := fn.ntmps, nargs := fn.params.size + fn.nfree, body := b, res := r } else none
    | none => none
  | none => none
def cFn (P : Program) (f : Nat) : Option VFn := cFnM P f []

end Go.Proofs.YtpbniieiinhliaaGreat.V

namespace Go.Proofs.YtpbniieiinhliaaGreat.V
open Go.RowKit

structure Row where
  w : Bool
  sz : Nat
  rows : List (List AV)

abbrev Rows := Id → Option Row
structure Store where
  get : Rows
  next : Nat

abbrev Env := Nat → AV
def upd (env : Env) : Option Nat → AV → Env
  | some d, v => fun t => if t = d then v else env t
  | none, _ => env

inductive Ex where
  | normal
  | exit (id : Nat)
  | ret
  deriving DecidableEq

def evO (env : Env) : O → AV
  | .t n => env n
  | .k c => c.av
  | .ka cs => .agg (cs.map K.av)
  | .f n => .fn n []

def setR (g : Rows) (id : Id) (r : Row) : Rows := fun i => if i = id then some r else g i
def killR (g : Rows) (id : Id) : Rows := fun i => if i = id then none else g i
/-- The rows that are in sight: not those of certain sites. -/
def vis : List Nat → Nat → Rows → Rows
  | [], _, g => g
  | h :: t, n, g => fun id => if (h :: t).contains id.site = true ∧ id.ver = n then none else g id
/-- All rows, to be read alone. -/
def ro (g : Rows) : Rows := fun id => (g id).map fun r => { r with w := false }

/-! ### Quiet operations -/

def part (agg : Bool) (n : Nat) (cs : List AV) : Option AV :=
  if agg then (if n ≤ cs.length then some (.agg (cs.take n)) else none) else cs.head?

def rowAt (g : Rows) (id : Id) (i : Nat) : Option (List AV) := (g id).bind (·.rows[i]?)

def ld (g : Rows) (agg : Bool) (n : Nat) : AV → Option AV
  | .ptr id i off => (rowAt g id i).bind fun cs => part agg n (cs.drop off)
  | .iptr cs => part agg n cs
  | _ => none

def ibin : BinOp → IntKind → Int → Int → Option AV
  | .add, k, a, b => some (.int k (k.wrap (a + b)))
  | .sub, k, a, b => some (.int k (k.wrap (a - b)))
  | .mul, k, a, b => some (.int k (k.wrap (a * b)))
  | .quo, k, a, b => if b = 0 then none else some (.int k (k.wrap (a.tdiv b)))
  | .rem, k, a, b => if b = 0 then none else some (.int k (a.tmod b))
  | .lss, _, a, b => some (.bool (decide (a < b)))
  | .leq, _, a, b => some (.bool (decide (a ≤ b)))
  | .gtr, _, a, b => some (.bool (decide (b < a)))
  | .geq, _, a, b => some (.bool (decide (b ≤ a)))
  | .and, k, a, b => some (.int k (k.wrap (BitVec.ofInt k.bits a &&& BitVec.ofInt k.bits b).toNat))
  | .or, k, a, b => some (.int k (k.wrap (BitVec.ofInt k.bits a ||| BitVec.ofInt k.bits b).toNat))
  | .xor, k, a, b => some (.int k (k.wrap (BitVec.ofInt k.bits a ^^^ BitVec.ofInt k.bits b).toNat))
  | _, _, _, _ => none
def vbin (op : BinOp) : AV → AV → Option AV
  | .int k a, .int k' b => if k = k' then ibin op k a b else none
  | _, _ => none
def vsh (left : Bool) : AV → AV → Option AV
  | .int k a, .int _ b => if b < 0 then none else some (.int k (if left then k.wrap (a * 2 ^ min b.toNat k.bits) else a.fdiv (2 ^ min b.toNat k.bits)))
  | _, _ => none
def sbin : BinOp → ByteArray → ByteArray → Option AV
  | .add, a, b => if a.size + b.size ≤ 9223372036854775807 then some (.str (a ++ b)) else none
  | .lss, a, b => some (.bool (Op.bytesLess a.toList b.toList))
  | .leq, a, b => some (.bool (Op.bytesLess a.toList b.toList || (a.toList == b.toList)))
  | .gtr, a, b => some (.bool !(Op.bytesLess a.toList b.toList || (a.toList == b.toList)))
  | .geq, a, b => some (.bool !(Op.bytesLess a.toList b.toList))
  | _, _, _ => none
def vsbin (op : BinOp) : AV → AV → Option AV
  | .str a, .str b => sbin op a b
  | _, _ => none
def eq1 : TS → AV → AV → Option Bool
  | .tI, .int k a, .int k' b => if k = k' then some (decide (a = b)) else none
  | .tB, .bool a, .bool b => some (a == b)
  | .tS, .str a, .str b => some (decide (a = b))
  | _, _, _ => none
def eqL : List TS → List AV → List AV → Option Bool
  | [], [], [] => some true
  | t :: ts, a :: r, b :: s => match eq1 t a b, eqL ts r s with
    | some x, some y => some (x && y)
    | _, _ => none
  | _, _, _ => none
def xorB (neg b : Bool) : Bool := if neg then !b else b
def vnilS : AV → Option Bool
  | .nils => some true
  | .own _ _ _ => some false
  | .sl (_ :: _) => some false
  | _ => none
def vnilF : AV → Option Bool
  | .nilf => some true
  | .fn _ _ => some false
  | _ => none
def vnil (isFn : Bool) (x : AV) : Option Bool := if isFn then vnilF x else vnilS x
def hiOf (len : Nat) : Option AV → Option Nat
  | none => some len
  | some (.int _ n) => if 0 ≤ n ∧ n ≤ len then some n.toNat else none
  | _ => none
def loOf (h : Nat) : Option AV → Option Nat
  | none => some 0
  | some (.int _ n) => if 0 ≤ n ∧ n ≤ h then some n.toNat else none
  | _ => none
def vslice (g : Rows) (sz : Nat) (x : AV) (lo hi : Option AV) : Option AV :=
  match x with
  | .nils => (hiOf 0 hi).bind fun h => (loOf h lo).map fun _ => .nils
  | .sl rows => (hiOf rows.length hi).bind fun h => (loOf h lo).bind fun l => if ∀ cs ∈ rows, cs.length = sz then some (.sl ((rows.drop l).take (h - l))) else none
  | .own id off len => (g id).bind fun r => (hiOf len hi).bind fun h => (loOf h lo).bind fun l => if r.sz = sz then some (.own id (off + l) (h - l)) else none
  | _ => none
def vsliceS (x : AV) (lo hi : Option AV) : Option AV :=
  match x with
  | .str s => (hiOf s.size hi).bind fun h => (loOf h lo).map fun l => .str (s.extract l h)
  | _ => none
def vfaddr (off : Nat) : AV → Option AV
  | .ptr id i o => some (.ptr id i (o + off))
  | .iptr cs => some (.iptr (cs.drop off))
  | _ => none
def viaddr (g : Rows) (sz : Nat) : AV → AV → Option AV
  | .sl rows, .int _ n => if 0 ≤ n then (rows[n.toNat]?).bind fun cs => if cs.length = sz then some (.iptr cs) else none else none
  | .own id off len, .int _ n => if 0 ≤ n ∧ n < len then (g id).bind fun r => if r.sz = sz then some (.ptr id (off + n.toNat) 0) else none else none
  | _, _ => none
def vidxS : AV → AV → Option AV
  | .str s, .int _ n => if 0 ≤ n then (s[n.toNat]?).map fun b => .int .u8 b.toNat else none
  | _, _ => none
def vidxA (agg : Bool) (len n : Nat) : AV → AV → Option AV
  | .agg cs, .int _ i => if 0 ≤ i ∧ i < len then part agg n (cs.drop (i.toNat * n)) else none
  | _, _ => none
def vlen : AV → Option Nat
  | .nils => some 0
  | .sl rows => some rows.length
  | .own _ _ n => some n
  | _ => none
def vnot : AV → Option AV
  | .bool b => some (.bool !b)
  | _ => none
def vneg : AV → Option AV
  | .int k n => some (.int k (k.wrap (0 - n)))
  | _ => none
def vconv (k : IntKind) : AV → Option AV
  | .int _ n => some (.int k (k.wrap n))
  | _ => none
def vconvS : AV → Option AV
  | .str s => some (.str s)
  | _ => none
def vpick : AV → AV → AV → Option AV
  | .bool c, a, b => some (if c then a else b)
  | _, _, _ => none
def vchk : AV → Option AV
  | .ptr id i o => some (.ptr id i o)
  | .iptr cs => some (.iptr cs)
  | _ => none
def vfield (agg : Bool) (off n : Nat) : AV → Option AV
  | .agg cs => if off + n ≤ cs.length then part agg n (cs.drop off) else none
  | _ => none
def vextract (i : Nat) : AV → Option AV
  | .tup vs => vs[i]?
  | _ => none
def vlenS : AV → Option AV
  | .str s => some (.int .i64 s.size)
  | _ => none
/-- Cells for a row: each fits into a cell. -/
def rowOf (sz : Nat) (v : AV) : Option (List AV) := if v.cells.length = sz ∧ v.cells.all AV.cell then some v.cells else none
def boxOf (v : AV) : Option (List AV) := if v.cells.all AV.cell then some v.cells else none
def rowsOf (sz : Nat) : List AV → Option (List (List AV))
  | [] => some []
  | v :: r => (rowOf sz v).bind fun c => (rowsOf sz r).map fun cs => c :: cs
def fillV : List AV → List (Nat × Nat × AV) → Option (List AV)
  | cs, [] => some cs
  | cs, (off, n, v) :: r => if v.cells.length = n ∧ off + n ≤ cs.length ∧ v.cells.all AV.cell then fillV (cs.take off ++ v.cells ++ cs.drop (off + n)) r else none
def most : Nat := 16777216
def vmk (zero : List K) : AV → AV → Option (Nat × Row)
  | .int _ l, .int _ c => if 0 ≤ l ∧ l ≤ c ∧ c ≤ most then some (l.toNat, ⟨true, zero.length, List.replicate l.toNat (zero.map K.av)⟩) else none
  | _, _ => none

/-- An operation that writes no row: what it yields, and the row that it makes. -/
def qop (o : VOp) (ρ : O → AV) (g : Rows) (id : Id) : Option (AV × Option Row) :=
  match o with
  | .mov x => some (ρ x, none)
  | .pick c a b => (vpick (ρ c) (ρ a) (ρ b)).map (·, none)
  | .new zero => some (.ptr id 0 0, some ⟨true, zero.length, [zero.map K.av]⟩)
  | .box x => (boxOf (ρ x)).map fun cs => (.ptr id 0 0, some ⟨true, cs.length, [cs]⟩)
  | .build zero parts => (fillV (zero.map K.av) (parts.map fun (o, n, x) => (o, n, ρ x))).map fun cs => (.agg cs, none)
  | .bslice sz len parts => (rowsOf sz (parts.map ρ)).map fun rs => (.own id 0 len, some ⟨true, sz, rs⟩)
  | .load agg n a => (ld g agg n (ρ a)).map (·, none)
  | .chk x => (vchk (ρ x)).map (·, none)
  | .bin op _ x y => (vbin op (ρ x) (ρ y)).map (·, none)
  | .sh left x y => (vsh left (ρ x) (ρ y)).map (·, none)
  | .cmpS op x y => (vsbin op (ρ x) (ρ y)).map (·, none)
  | .eqS neg t x y => (eq1 t (ρ x) (ρ y)).map fun b => (.bool (xorB neg b), none)
  | .eqA neg ts x y => match ρ x, ρ y with
    | .agg xs, .agg ys => (eqL ts xs ys).map fun b => (.bool (xorB neg b), none)
    | _, _ => none
  | .eqN neg isFn x => (vnil isFn (ρ x)).map fun b => (.bool (xorB neg b), none)
  | .not x => (vnot (ρ x)).map (·, none)
  | .neg x => (vneg (ρ x)).map (·, none)
  | .conv k x => (vconv k (ρ x)).map (·, none)
  | .convS x => (vconvS (ρ x)).map (·, none)
  | .slice sz x lo hi => (vslice g sz (ρ x) (lo.map ρ) (hi.map ρ)).map (·, none)
  | .sliceS x lo hi => (vsliceS (ρ x) (lo.map ρ) (hi.map ρ)).map (·, none)
  | .faddr off x => (vfaddr off (ρ x)).map (·, none)
  | .field agg off n x => (vfield agg off n (ρ x)).map (·, none)
  | .iaddr sz x i => (viaddr g sz (ρ x) (ρ i)).map (·, none)
  | .idxS x i => (vidxS (ρ x) (ρ i)).map (·, none)
  | .idxA agg len n x i => (vidxA agg len n (ρ x) (ρ i)).map (·, none)
  | .extract i x => (vextract i (ρ x)).map (·, none)
  | .len x => (vlen (ρ x)).map fun (n : Nat) => (AV.int .i64 (n : Int), none)
  | .lenS x => (vlenS (ρ x)).map (·, none)
  | .mkfn f caps => some (.fn f (caps.map ρ), none)
  | .mkslice zero l c => (vmk zero (ρ l) (ρ c)).map fun (n, r) => (.own id 0 n, some r)
  | _ => none

/-! ### Operations that write -/

def rowsIn (g : Rows) : AV → Option (List (List AV))
  | .nils => some []
  | .sl rows => some rows
  | .own id off len => (g id).bind fun r => if off + len ≤ r.rows.length then some ((r.rows.drop off).take len) else none
  | _ => none
def putCs (cs : List AV) (off : Nat) (xs : List AV) : List AV := cs.take off ++ xs ++ cs.drop (off + xs.length)
def vstore (g : Rows) (n : Nat) (v : AV) : AV → Option Rows
  | .ptr id i off => (g id).bind fun r => (r.rows[i]?).bind fun cs =>
    if r.w ∧ v.cells.length = n ∧ v.cells.all AV.cell ∧ off + n ≤ cs.length then some (setR g id { r with rows := r.rows.set i (putCs cs off v.cells) }) else none
  | _ => none
def vappend (g : Rows) (id : Id) (sz : Nat) (x : AV) (ys : List (List AV)) : Option (AV × Rows) :=
  match x with
  | .nils => match ys with
    | [] => some (.nils, g)
    | y :: r => if (y :: r).length ≤ most ∧ (y :: r).all (fun c => c.length == sz && c.all AV.cell) then some (.own id 0 (y :: r).length, setR g id ⟨true, sz, y :: r⟩) else none
  | .own i 0 len => (g i).bind fun r =>
    if r.w ∧ r.sz = sz ∧ len = r.rows.length ∧ len + ys.length ≤ most ∧ ys.all (fun c => c.length == sz && c.all AV.cell) then some (.own id 0 (len + ys.length), setR (killR g i) id ⟨true, sz, r.rows ++ ys⟩) else none
  | _ => none
def vcopy (g : Rows) (sz : Nat) (x : AV) (ys : List (List AV)) : Option (AV × Rows) :=
  match x with
  | .own i off len => (g i).bind fun r =>
    if r.w ∧ r.sz = sz ∧ off + len ≤ r.rows.length ∧ ys.all (fun c => c.length == sz && c.all AV.cell) then
      some (.int .i64 (min ys.length len : Nat), setR g i { r with rows := r.rows.take off ++ ys.take (min ys.length len) ++ r.rows.drop (off + min ys.length len) }) else none
  | _ => none
def vclear (g : Rows) (zero : List K) (x : AV) : Option Rows :=
  match x with
  | .nils => some g
  | .own i off len => (g i).bind fun r =>
    if r.w ∧ r.sz = zero.length ∧ off + len ≤ r.rows.length then
      some (setR g i { r with rows := r.rows.take off ++ List.replicate len (zero.map K.av) ++ r.rows.drop (off + len) }) else none
  | _ => none
def eop (o : VOp) (ρ : O → AV) (g : Rows) (id : Id) : Option (AV × Rows) :=
  match o with
  | .store n a x => (vstore g n (ρ x) (ρ a)).map fun g' => (.undef, g')
  | .append sz x y => (rowsIn g (ρ y)).bind fun ys => vappend g id sz (ρ x) ys
  | .copy sz x y => (rowsIn g (ρ y)).bind fun ys => vcopy g sz (ρ x) ys
  | .clear zero x => (vclear g zero (ρ x)).map fun g' => (.undef, g')
  | _ => none

/-! ### Calls -/

abbrev CallP := Nat → List AV → Store → (AV → Store → Prop) → Prop

mutual
/-- A result that takes its rows along: they are never written again. -/
def fz (g : Rows) : Nat → AV → Option AV
  | 0, _ => none
  | n + 1, a => match a with
    | .own id off len => match g id with
      | some r => if r.w then (if off + len ≤ r.rows.length then (fzRows g n ((r.rows.drop off).take len)).map AV.sl else none) else none
      | none => none
    | .ptr id i off => match g id with
      | some r => if r.w then (match r.rows[i]? with
        | some cs => (fzRow g n (cs.drop off)).map AV.iptr
        | none => none) else none
      | none => none
    | .agg cs => (fzRow g n cs).map AV.agg
    | .tup vs => (fzRow g n vs).map AV.tup
    | .fn f caps => if caps.all AV.cell then (fzRow g n caps).map (AV.fn f) else none
    | v => some v
  termination_by n _ => (n, 0)
def fzRow (g : Rows) : Nat → List AV → Option (List AV)
  | n, [] => some []
  | n, a :: r => match fz g n a with
    | some b => (fzRow g n r).map (b :: ·)
    | none => none
  termination_by n l => (n, l.length + 1)
def fzRows (g : Rows) : Nat → List (List AV) → Option (List (List AV))
  | n, [] => some []
  | n, c :: r => match fzRow g n c with
    | some b => (fzRows g n r).map (b :: ·)
    | none => none
  termination_by n l => (n, (l.map (fun c => c.length + 2)).sum + 1)
  decreasing_by all_goals simp_wf; try omega
end

mutual
/-- A result that holds nothing but plain values and rows of the call's own. -/
def fzS (g : Rows) : Nat → AV → Option AV
  | 0, _ => none
  | n + 1, a => match a with
    | .own id off len => match g id with
      | some r => if r.w then (if off + len ≤ r.rows.length then (fzSRows g n ((r.rows.drop off).take len)).map AV.sl else none) else none
      | none => none
    | .ptr id i off => match g id with
      | some r => if r.w then (match r.rows[i]? with
        | some cs => (fzSRow g n (cs.drop off)).map AV.iptr
        | none => none) else none
      | none => none
    | .agg cs => (fzSRow g n cs).map AV.agg
    | .tup vs => (fzSRow g n vs).map AV.tup
    | .int k m => some (.int k m)
    | .bool b => some (.bool b)
    | .str s => some (.str s)
    | .nils => some .nils
    | .nilp => some .nilp
    | .nilf => some .nilf
    | _ => none
  termination_by n _ => (n, 0)
def fzSRow (g : Rows) : Nat → List AV → Option (List AV)
  | n, [] => some []
  | n, a :: r => match fzS g n a with
    | some b => (fzSRow g n r).map (b :: ·)
    | none => none
  termination_by n l => (n, l.length + 1)
def fzSRows (g : Rows) : Nat → List (List AV) → Option (List (List AV))
  | n, [] => some []
  | n, c :: r => match fzSRow g n c with
    | some b => (fzSRows g n r).map (b :: ·)
    | none => none
  termination_by n l => (n, (l.map (fun c => c.length + 2)).sum + 1)
  decreasing_by all_goals simp_wf; try omega
end
/-- All rows, as if they were one's own. -/
def rw_ (g : Rows) : Rows := fun id => (g id).map fun r => { r with w := true }

/-- A call that leaves the caller's rows alone and whose result takes its rows along. -/
def PC (X : CallP) (f : Nat) (args : List AV) (σ : Store) (K : AV → Prop) : Prop :=
  X f args ⟨ro σ.get, σ.next⟩ fun r σ' => ∃ r', fz σ'.get 6 r = some r' ∧ K r'

/-- A call that sees all that it is given by value. -/
def PCv (X : CallP) (f : Nat) (args : List AV) (σ : Store) (K : AV → Prop) : Prop :=
  ∃ args', fzRow (rw_ σ.get) 6 args = some args' ∧ X f args' ⟨fun _ => none, σ.next⟩ fun r σ' => ∃ r', fzS σ'.get 6 r = some r' ∧ K r'
def PCx (X : CallP) (f : Nat) (args : List AV) (σ : Store) (K : AV → Prop) : Prop := PC X f args σ K ∨ PCv X f args σ K

def wantedV (g : Option (Nat × Bool)) (env : Env) : Bool :=
  match g with
  | none => true
  | some (t, b) => match env t with
    | .bool c => c == b
    | _ => false

/-- It fits into a cell and leads nowhere. -/
def AV.plain : AV → Bool
  | .int .. | .bool _ | .str _ | .nils | .nilp | .nilf => true
  | _ => false
/-- A call that sees all that it is given by value and yields a row of its own making, which holds plain values. -/
def CM (X : CallP) (f : Nat) (args : List AV) (σ : Store) (sz : Nat) (rows : List (List AV)) : Prop :=
  (∀ c ∈ rows, ∀ a ∈ c, a.plain = true) ∧ ∃ args', fzRow (rw_ σ.get) 6 args = some args' ∧ X f args' ⟨fun _ => none, σ.next⟩ fun r σ' => ∃ id, r = .own id 0 rows.length ∧ σ'.get id = some ⟨true, sz, rows⟩

def callW (X : CallP) (draw : Bool) (hid : List Nat) (site : Nat) (f : Nat) (args : List AV) (σ : Store) (next : AV → Store → Prop) : Prop :=
  (∃ r, PCx X f args ⟨vis hid σ.next σ.get, σ.next + 1⟩ (fun r' => r' = r) ∧ next r σ) ∨
  (draw = false ∧ X f args ⟨σ.get, σ.next + 1⟩ next) ∨
  (hid.contains site = true ∧ ∃ sz rows, CM X f args ⟨vis hid σ.next σ.get, σ.next + 1⟩ sz rows ∧ next (.own ⟨site, σ.next⟩ 0 rows.length) ⟨setR σ.get ⟨site, σ.next⟩ ⟨true, sz, rows⟩, σ.next⟩)

def vop (X : CallP) (draw : Bool) (o : VOper) (env : Env) (σ : Store) (next : AV → Store → Prop) : Prop :=
  match o.op with
  | .call f args => callW X draw o.hid o.site f (args.map (evO env)) σ next
  | .callv x args => match evO env x with
    | .fn f caps => callW X draw o.hid o.site f (args.map (evO env) ++ caps) σ next
    | _ => False
  | .store .. | .append .. | .copy .. | .clear .. => match eop o.op (evO env) σ.get ⟨o.site, σ.next⟩ with
    | some (v, g) => next v ⟨g, σ.next⟩
    | none => False
  | _ => match qop o.op (evO env) (vis o.hid σ.next σ.get) ⟨o.site, σ.next⟩ with
    | some (v, some r) => next v ⟨setR σ.get ⟨o.site, σ.next⟩ r, σ.next⟩
    | some (v, none) => next v σ
    | none => False

def wpOps (X : CallP) (draw : Bool) : List VOper → (Env → Store → Prop) → Env → Store → Prop
  | [], K, env, σ => K env ⟨σ.get, σ.next + 1⟩
  | o :: r, K, env, σ =>
    if wantedV o.guard env then vop X draw o env σ fun v σ' => wpOps X draw r K (upd env o.dst v) σ'
    else wpOps X draw r K (upd env o.dst .undef) σ

def seqQ (next : Env → Store → Prop) (Q : Ex → Env → Store → Prop) : Ex → Env → Store → Prop
  | .normal => next
  | e => Q e
def blockQ (id : Nat) (Q : Ex → Env → Store → Prop) : Ex → Env → Store → Prop
  | .exit id' => if id' = id then Q .normal else Q (.exit id')
  | e => Q e
def loopN (W : (Ex → Env → Store → Prop) → Env → Store → Prop) (Q : Ex → Env → Store → Prop) : Nat → Env → Store → Prop
  | 0 => fun _ _ => False
  | n + 1 => W (seqQ (loopN W Q n) Q)

/-- Slot t holds a row of this region, made at s; what y holds is no row of this region. -/
def locC (t s : Nat) (y : O) (env : Env) (n : Nat) : Prop := (∃ len, env t = .own ⟨s, n⟩ 0 len) ∧ ∀ id o l, evO env y = .own id o l → id.ver ≠ n
def wpv (X : CallP) : VC → (Ex → Env → Store → Prop) → Env → Store → Prop
  | .skip, Q => Q .normal
  | .reg draw ops, Q => wpOps X draw ops (Q .normal)
  | .seq a b, Q => wpv X a (seqQ (wpv X b Q) Q)
  | .cond c x y, Q => fun env σ => match evO env c with
    | .bool b => if b then wpv X x Q env σ else wpv X y Q env σ
    | _ => False
  | .block id c, Q => wpv X c (blockQ id Q)
  | .loop c, Q => fun env σ => ∃ n, loopN (wpv X c) Q n env σ
  | .exit id, Q => Q (.exit id)
  | .ret, Q => Q .ret
  | .one o c, Q => fun env σ => if wantedV o.guard env then vop X false o env σ fun v σ' => wpv X c Q (upd env o.dst v) σ' else wpv X c Q (upd env o.dst .undef) σ
  | .both a b, Q => fun env σ => wpv X a Q env σ ∧ wpv X b Q env σ
  | .loc t s y c, Q => fun env σ => locC t s y env σ.next ∧ wpv X c Q env σ

def vres1 (env : Env) (g : Rows) : VRes → Option AV
  | .tmp t => some (env t)
  | .cell agg n t => ld g agg n (env t)
def vresL (env : Env) (g : Rows) : List VRes → Option (List AV)
  | [] => some []
  | r :: l => (vres1 env g r).bind fun v => (vresL env g l).map (v :: ·)
def tupOf : List AV → AV
  | [v] => v
  | l => .tup l
def envOf (args : List AV) : Env := fun t => args.getD t .undef
def retQ (res : List VRes) (K : AV → Store → Prop) : Ex → Env → Store → Prop
  | .exit _, _, _ => False
  | _, env, σ => ∃ vs, vresL env σ.get res = some vs ∧ K (tupOf vs) σ

end Go.Proofs.YtpbniieiinhliaaGreat.V

namespace Go.Proofs.YtpbniieiinhliaaGreat.V
open Go.RowKit

/-- A value whose memory is never written again (the blocks of D). -/
inductive Imm (P : Program) (w : World) (D : Nat → Prop) : AV → Value → Prop
  | int (k n) : Imm P w D (.int k n) (.int k n)
  | bool (b) : Imm P w D (.bool b) (.bool b)
  | str (s) : Imm P w D (.str s) (.string s)
  | nils : Imm P w D .nils (.slice none 0 0)
  | nilp : Imm P w D .nilp (.pointer none)
  | nilf : Imm P w D .nilf .nilFunc
  | sl0 (a c) : c ≤ maxLen → Imm P w D (.sl []) (.slice a 0 c)
  | sl (rows b o n c sz) (vs : Nat → Nat → Value) : rows.length = n → n ≤ c → c ≤ maxLen → D b → (∀ cs ∈ rows, cs.length = sz) → (∀ cs ∈ rows, ∀ a ∈ cs, a.cell = true) →
      (∀ i j, i < n → j < sz → w.cell? ⟨b, o + (i * sz + j), none⟩ = some (vs i j)) →
      (∀ i j cs a, rows[i]? = some cs → cs[j]? = some a → Imm P w D a (vs i j)) → Imm P w D (.sl rows) (.slice (some ⟨b, o, none⟩) n c)
  | iptr (cs b o) (vs : Nat → Value) : D b → (∀ a ∈ cs, a.cell = true) → (∀ j, j < cs.length → w.cell? ⟨b, o + j, none⟩ = some (vs j)) →
      (∀ j a, cs[j]? = some a → Imm P w D a (vs j)) → Imm P w D (.iptr cs) (.pointer (some ⟨b, o, none⟩))
  | agg (cs) (vs : Array Value) (f : Nat → Value) : vs.size = cs.length → (∀ a ∈ cs, a.cell = true) → (∀ j, j < cs.length → vs[j]? = some (f j)) → (∀ j a, cs[j]? = some a → Imm P w D a (f j)) → Imm P w D (.agg cs) (.agg vs)
  | fn (f caps) (vs : Array Value) (g : Nat → Value) : callable P f = true → vs.size = caps.length → (∀ j, j < caps.length → vs[j]? = some (g j)) → (∀ j a, caps[j]? = some a → Imm P w D a (g j)) → Imm P w D (.fn f caps) (.func (.func f) #[] vs)

structure Blk where
  b : Nat
  sz : Nat
  C : Nat

abbrev Names := Id → Option Blk

inductive Rep (P : Program) (w : World) (D : Nat → Prop) (ι : Names) : AV → Value → Prop
  | imm (a v) : Imm P w D a v → Rep P w D ι a v
  | own (id off len o cap B) : ι id = some B → len ≤ cap → (cap = 0 ∨ o = off * B.sz) → (off + cap) * B.sz ≤ B.C → cap ≤ maxLen → Rep P w D ι (.own id off len) (.slice (some ⟨B.b, o, none⟩) len cap)
  | ptr (id i off B) : ι id = some B → Rep P w D ι (.ptr id i off) (.pointer (some ⟨B.b, i * B.sz + off, none⟩))
  | agg (cs) (vs : Array Value) (f : Nat → Value) : vs.size = cs.length → (∀ a ∈ cs, a.cell = true) → (∀ j, j < cs.length → vs[j]? = some (f j)) → (∀ j a, cs[j]? = some a → Rep P w D ι a (f j)) → Rep P w D ι (.agg cs) (.agg vs)
  | tup (cs) (vs : Array Value) (f : Nat → Value) : vs.size = cs.length → (∀ j, j < cs.length → vs[j]? = some (f j)) → (∀ j a, cs[j]? = some a → Rep P w D ι a (f j)) → Rep P w D ι (.tup cs) (.tuple vs)
  | fn (f caps) (vs : Array Value) (g : Nat → Value) : callable P f = true → vs.size = caps.length → (∀ j, j < caps.length → vs[j]? = some (g j)) → (∀ j a, caps[j]? = some a → Rep P w D ι a (g j)) → Rep P w D ι (.fn f caps) (.func (.func f) #[] vs)

variable {P : Program} {w w' : World} {D D' : Nat → Prop} {ι ι' : Names}

theorem Imm.frame (hD : ∀ b, D b → w'.heap[b]? = w.heap[b]?) (hs : ∀ b, D b → D' b) {a : AV} {v : Value} (h : Imm P w D a v) : Imm P w' D' a v := by
  induction h with
  | int k n => exact .int k n
  | bool b => exact .bool b
  | str s => exact .str s
  | nils => exact .nils
  | nilp => exact .nilp
  | nilf => exact .nilf
  | sl0 a c h => exact .sl0 a c h
  | sl rows b o n c sz vs h1 h2 h3 h4 h5 h5' h6 _ ih => exact .sl rows b o n c sz vs h1 h2 h3 (hs b h4) h5 h5' (fun i j hi hj => (World.cell?_of_block (hD b h4)).trans (h6 i j hi hj)) ih
  | iptr cs b o vs h1 h1' h2 _ ih => exact .iptr cs b o vs (hs b h1) h1' (fun j hj => (World.cell?_of_block (hD b h1)).trans (h2 j hj)) ih
  | agg cs vs f h1 h2 h3 _ ih => exact .agg cs vs f h1 h2 h3 ih
  | fn f caps vs g h1 h2 h3 _ ih => exact .fn f caps vs g h1 h2 h3 ih

theorem Rep.frame (hD : ∀ b, D b → w'.heap[b]? = w.heap[b]?) (hs : ∀ b, D b → D' b) (hι : ∀ id B, ι id = some B → ι' id = some B) {a : AV} {v : Value} (h : Rep P w D ι a v) : Rep P w' D' ι' a v := by
  induction h with
  | imm a v h => exact .imm a v (h.frame hD hs)
  | own id off len o cap B h1 h2 h3 h4 h5 => exact .own id off len o cap B (hι _ _ h1) h2 h3 h4 h5
  | ptr id i off B h1 => exact .ptr id i off B (hι _ _ h1)
  | agg cs vs f h1 h2 h3 _ ih => exact .agg cs vs f h1 h2 h3 ih
  | tup cs vs f h1 h2 _ ih => exact .tup cs vs f h1 h2 ih
  | fn f caps vs g h1 h2 h3 _ ih => exact .fn f caps vs g h1 h2 h3 ih

theorem Rep.undef : Rep P w D ι .undef Go.undef := .tup [] #[] (fun _ => Go.undef) rfl (fun j hj => by simp at hj) (fun j a h => by simp at h)

theorem rep_k (c : K) : Rep P w D ι c.av c.val := by
  cases c with
  | int k n => exact .imm _ _ (.int k n)
  | bool b => exact .imm _ _ (.bool b)
  | str l => exact .imm _ _ (.str _)
  | nils => exact .imm _ _ .nils
  | nilp => exact .imm _ _ .nilp
  | nilf => exact .imm _ _ .nilf
theorem K.av_cell (c : K) : c.av.cell = true := by cases c <;> rfl
theorem kOf_val {v : Value} {c : K} (h : kOf v = some c) : v = c.val := by
  unfold kOf at h
  split at h <;> simp at h <;> subst h <;> rfl

/-- A value that fits into one cell is no struct. -/
theorem Rep.cell_val {a : AV} {v : Value} (h : Rep P w D ι a v) (hc : a.cell = true) : v.cells = #[v] ∧ (∀ vs, v ≠ .agg vs) ∧ (∀ vs, v ≠ .tuple vs) := by
  cases h with
  | imm a v h => cases h <;> simp_all [AV.cell, Value.cells]
  | own => simp [Value.cells]
  | ptr => simp [Value.cells]
  | agg => simp [AV.cell] at hc
  | tup => simp [AV.cell] at hc
  | fn => simp [Value.cells]

/-- A value's cells. -/
theorem Rep.cells {a : AV} {v : Value} (h : Rep P w D ι a v) (ha : a.cells.all AV.cell = true) : v.cells.size = a.cells.length ∧ ∃ f : Nat → Value, (∀ j, j < a.cells.length → v.cells[j]? = some (f j)) ∧ ∀ j x, a.cells[j]? = some x → Rep P w D ι x (f j) := by
  have one : ∀ (a : AV) (v : Value), a.cell = true → a.cells = [a] → Rep P w D ι a v → v.cells.size = a.cells.length ∧ ∃ f : Nat → Value, (∀ j, j < a.cells.length → v.cells[j]? = some (f j)) ∧ ∀ j x, a.cells[j]? = some x → Rep P w D ι x (f j) := by
    intro a v hc hcs h
    obtain ⟨h1, _, _⟩ := h.cell_val hc
    rw [h1, hcs]
    refine ⟨rfl, fun _ => v, fun j hj => ?_, fun j x hx => ?_⟩
    · have : j = 0 := by simp at hj; omega
      subst this; rfl
    · cases j with
      | zero => simp at hx; subst hx; exact h
      | succ j => simp at hx
  cases h with
  | imm a v h =>
    cases h with
    | agg cs vs f h1 h2 h3 h4 => exact ⟨h1, f, h3, fun j x hx => .imm _ _ (h4 j x hx)⟩
    | _ => exact one _ _ rfl rfl (.imm _ _ (by constructor <;> assumption))
  | own id off len o cap B h1 h2 h3 h4 h5 => exact one _ _ rfl rfl (.own id off len o cap B h1 h2 h3 h4 h5)
  | ptr id i off B h1 => exact one _ _ rfl rfl (.ptr id i off B h1)
  | agg cs vs f h1 h2 h3 h4 => exact ⟨h1, f, h3, h4⟩
  | tup cs vs f h1 h2 h3 => simp [AV.cells, AV.cell] at ha
  | fn f caps vs g h1 h2 h3 h4 => exact one _ _ rfl rfl (.fn f caps vs g h1 h2 h3 h4)

/-- A row lies in a block. -/
structure RowIn (P : Program) (w : World) (D : Nat → Prop) (ι : Names) (B : Blk) (r : Row) : Prop where
  sz : B.sz = r.sz
  blk : ∃ cells T, w.heap[B.b]? = some (.cells cells T (0, 0)) ∧ cells.size = B.C
  fits : r.rows.length * r.sz ≤ B.C
  len : ∀ cs ∈ r.rows, cs.length = r.sz
  flat : ∀ cs ∈ r.rows, ∀ a ∈ cs, a.cell = true
  at_ : ∀ i j cs a, r.rows[i]? = some cs → cs[j]? = some a → ∃ v, w.cell? ⟨B.b, i * r.sz + j, none⟩ = some v ∧ Rep P w D ι a v

/-- The rows in hand lie in the program's memory: from block hs on those that may be written. -/
structure Sim (P : Program) (hs : Nat) (D : Nat → Prop) (ι : Names) (g : Rows) (w : World) : Prop where
  lo : hs ≤ w.heap.size
  dead : ∀ b, D b → b < w.heap.size
  row : ∀ id r, g id = some r → ∃ B, ι id = some B ∧ RowIn P w D ι B r ∧ (r.w = true → hs ≤ B.b) ∧ (r.w = true → ¬ D B.b)
  inj : ∀ id id' r r' B B', g id = some r → g id' = some r' → r.w = true → ι id = some B → ι id' = some B' → B.b = B'.b → id = id'

/-- Names in use. -/
def Used (ι : Names) (n : Nat) (U : Nat → Prop) : Prop := ∀ id, ι id ≠ none → id.ver < n ∨ (id.ver = n ∧ U id.site)

/-- From one state to a later one. -/
structure Step (hs : Nat) (D : Nat → Prop) (ι : Names) (w : World) (D' : Nat → Prop) (ι' : Names) (w' : World) : Prop where
  below : Below hs w w'
  keep : ∀ b, D b → w'.heap[b]? = w.heap[b]?
  dead : ∀ b, D b → D' b
  names : ∀ id B, ι id = some B → ι' id = some B
  new : ∀ b, D' b → D b ∨ w.heap.size ≤ b

theorem Step.refl (hs : Nat) (D : Nat → Prop) (ι : Names) (w : World) : Step hs D ι w D ι w := ⟨Below.refl _ _, fun _ _ => rfl, fun _ h => h, fun _ _ h => h, fun _ h => .inl h⟩
theorem Step.trans {hs : Nat} {D D' D'' : Nat → Prop} {ι ι' ι'' : Names} {w w' w'' : World} (h : Step hs D ι w D' ι' w') (k : Step hs D' ι' w' D'' ι'' w'') : Step hs D ι w D'' ι'' w'' :=
  ⟨h.below.trans k.below, fun b hb => (k.keep b (h.dead b hb)).trans (h.keep b hb), fun b hb => k.dead b (h.dead b hb), fun id B hB => k.names id B (h.names id B hB), fun b hb => by
    rcases k.new b hb with hb | hb
    · exact h.new b hb
    · exact .inr (Nat.le_trans h.below.size hb)⟩
theorem Step.rep {hs : Nat} {D D' : Nat → Prop} {ι ι' : Names} {w w' : World} (h : Step hs D ι w D' ι' w') {a : AV} {v : Value} (hr : Rep P w D ι a v) : Rep P w' D' ι' a v := hr.frame h.keep h.dead h.names

theorem rep_int {k n} {v : Value} (h : Rep P w D ι (.int k n) v) : v = .int k n := by
  cases h with
  | imm _ _ h => cases h; rfl
theorem rep_bool {b} {v : Value} (h : Rep P w D ι (.bool b) v) : v = .bool b := by
  cases h with
  | imm _ _ h => cases h; rfl
theorem rep_str {s} {v : Value} (h : Rep P w D ι (.str s) v) : v = .string s := by
  cases h with
  | imm _ _ h => cases h; rfl
theorem rep_nils {v : Value} (h : Rep P w D ι .nils v) : v = .slice none 0 0 := by
  cases h with
  | imm _ _ h => cases h; rfl
theorem rep_nilf {v : Value} (h : Rep P w D ι .nilf v) : v = .nilFunc := by
  cases h with
  | imm _ _ h => cases h; rfl
theorem rep_agg {cs} {v : Value} (h : Rep P w D ι (.agg cs) v) : ∃ (vs : Array Value) (f : Nat → Value), v = .agg vs ∧ vs.size = cs.length ∧ (∀ a ∈ cs, a.cell = true) ∧ (∀ j, j < cs.length → vs[j]? = some (f j)) ∧ ∀ j a, cs[j]? = some a → Rep P w D ι a (f j) := by
  cases h with
  | imm _ _ h =>
    cases h with
    | agg cs vs f h1 h2 h3 h4 => exact ⟨vs, f, rfl, h1, h2, h3, fun j a h => .imm _ _ (h4 j a h)⟩
  | agg cs vs f h1 h2 h3 h4 => exact ⟨vs, f, rfl, h1, h2, h3, h4⟩
theorem rep_tup {cs} {v : Value} (h : Rep P w D ι (.tup cs) v) : ∃ (vs : Array Value) (f : Nat → Value), v = .tuple vs ∧ vs.size = cs.length ∧ (∀ j, j < cs.length → vs[j]? = some (f j)) ∧ ∀ j a, cs[j]? = some a → Rep P w D ι a (f j) := by
  cases h with
  | imm _ _ h => cases h
  | tup cs vs f h1 h2 h3 => exact ⟨vs, f, rfl, h1, h2, h3⟩
theorem rep_fn {f caps} {v : Value} (h : Rep P w D ι (.fn f caps) v) : ∃ (vs : Array Value) (g : Nat → Value), v = .func (.func f) #[] vs ∧ callable P f = true ∧ vs.size = caps.length ∧ (∀ j, j < caps.length → vs[j]? = some (g j)) ∧ ∀ j a, caps[j]? = some a → Rep P w D ι a (g j) := by
  cases h with
  | imm _ _ h =>
    cases h with
    | fn f caps vs g h1 h2 h3 h4 => exact ⟨vs, g, rfl, h1, h2, h3, fun j a h => .imm _ _ (h4 j a h)⟩
  | fn f caps vs g h1 h2 h3 h4 => exact ⟨vs, g, rfl, h1, h2, h3, h4⟩
theorem rep_own {id off len} {v : Value} (h : Rep P w D ι (.own id off len) v) : ∃ o cap B, v = .slice (some ⟨B.b, o, none⟩) len cap ∧ ι id = some B ∧ len ≤ cap ∧ (cap = 0 ∨ o = off * B.sz) ∧ (off + cap) * B.sz ≤ B.C ∧ cap ≤ maxLen := by
  cases h with
  | imm _ _ h => cases h
  | own id off len o cap B h1 h2 h3 h4 h5 => exact ⟨o, cap, B, rfl, h1, h2, h3, h4, h5⟩
theorem rep_ptr {id i off} {v : Value} (h : Rep P w D ι (.ptr id i off) v) : ∃ B, v = .pointer (some ⟨B.b, i * B.sz + off, none⟩) ∧ ι id = some B := by
  cases h with
  | imm _ _ h => cases h
  | ptr id i off B h1 => exact ⟨B, rfl, h1⟩
theorem rep_iptr {cs} {v : Value} (h : Rep P w D ι (.iptr cs) v) : ∃ b o, ∃ vs : Nat → Value, v = .pointer (some ⟨b, o, none⟩) ∧ D b ∧ (∀ a ∈ cs, a.cell = true) ∧ (∀ j, j < cs.length → w.cell? ⟨b, o + j, none⟩ = some (vs j)) ∧ ∀ j a, cs[j]? = some a → Imm P w D a (vs j) := by
  cases h with
  | imm _ _ h =>
    cases h with
    | iptr cs b o vs h1 h2 h3 h4 => exact ⟨b, o, vs, rfl, h1, h2, h3, h4⟩
theorem rep_sl {rows} {v : Value} (h : Rep P w D ι (.sl rows) v) : ∃ A c, v = .slice A rows.length c ∧ rows.length ≤ c ∧ c ≤ maxLen ∧
    (rows = [] ∨ ∃ b o sz, ∃ vs : Nat → Nat → Value, A = some ⟨b, o, none⟩ ∧ D b ∧ (∀ cs ∈ rows, cs.length = sz) ∧ (∀ cs ∈ rows, ∀ a ∈ cs, a.cell = true) ∧
      (∀ i j, i < rows.length → j < sz → w.cell? ⟨b, o + (i * sz + j), none⟩ = some (vs i j)) ∧ ∀ i j cs a, rows[i]? = some cs → cs[j]? = some a → Imm P w D a (vs i j)) := by
  cases h with
  | imm _ _ h =>
    cases h with
    | sl0 a c h => exact ⟨a, c, rfl, Nat.zero_le _, h, .inl rfl⟩
    | sl rows b o n c sz vs h1 h2 h3 h4 h5 h5' h6 h7 => subst h1; exact ⟨_, c, rfl, h2, h3, .inr ⟨b, o, sz, vs, rfl, h4, h5, h5', h6, h7⟩⟩

/-- No list is longer than the machine's. -/
inductive Legal : AV → Prop
  | int (k n) : Legal (.int k n)
  | bool (b) : Legal (.bool b)
  | str (s) : Legal (.str s)
  | nils : Legal .nils
  | nilp : Legal .nilp
  | nilf : Legal .nilf
  | sl (rows) : rows.length ≤ maxLen → (∀ cs ∈ rows, ∀ a ∈ cs, Legal a) → Legal (.sl rows)
  | own (id off len) : Legal (.own id off len)
  | ptr (id i off) : Legal (.ptr id i off)
  | iptr (cs) : (∀ a ∈ cs, Legal a) → Legal (.iptr cs)
  | agg (cs) : (∀ a ∈ cs, Legal a) → Legal (.agg cs)
  | tup (cs) : (∀ a ∈ cs, Legal a) → Legal (.tup cs)
  | fn (f caps) : (∀ a ∈ caps, Legal a) → Legal (.fn f caps)
theorem Legal.len {rows : List (List AV)} (h : Legal (.sl rows)) : rows.length ≤ 9223372036854775807 := by
  cases h with
  | sl _ h _ => unfold maxLen at h; omega
theorem Legal.cell {rows : List (List AV)} (h : Legal (.sl rows)) {cs : List AV} (hc : cs ∈ rows) {a : AV} (ha : a ∈ cs) : Legal a := by
  cases h with
  | sl _ _ h => exact h cs hc a ha
theorem Legal.iptrc {cs : List AV} (h : Legal (.iptr cs)) {a : AV} (ha : a ∈ cs) : Legal a := by
  cases h with
  | iptr _ h => exact h a ha
theorem of_mem {l : List AV} {p : AV → Prop} (h : ∀ (j : Nat) (a : AV), l[j]? = some a → p a) : ∀ a ∈ l, p a := fun a ha => by
  obtain ⟨j, hj, rfl⟩ := List.getElem_of_mem ha
  exact h j _ (List.getElem?_eq_getElem hj)
theorem Imm.legal {a : AV} {v : Value} (h : Imm P w D a v) : Legal a := by
  induction h with
  | int k n => exact .int k n
  | bool b => exact .bool b
  | str s => exact .str s
  | nils => exact .nils
  | nilp => exact .nilp
  | nilf => exact .nilf
  | sl0 a c h => exact .sl [] (Nat.zero_le _) (fun cs h => by cases h)
  | sl rows b o n c sz vs h1 h2 h3 h4 h5 h5' h6 _ ih =>
    exact .sl rows (by omega) fun cs hcs a ha => by
      obtain ⟨i, hi, rfl⟩ := List.getElem_of_mem hcs
      obtain ⟨j, hj, rfl⟩ := List.getElem_of_mem ha
      exact ih i j _ _ (List.getElem?_eq_getElem hi) (List.getElem?_eq_getElem hj)
  | iptr cs b o vs h1 h1' h2 _ ih => exact .iptr cs (of_mem ih)
  | agg cs vs f h1 h2 h3 _ ih => exact .agg cs (of_mem ih)
  | fn f caps vs g h1 h2 h3 _ ih => exact .fn f caps (of_mem ih)
theorem Rep.legal {a : AV} {v : Value} (h : Rep P w D ι a v) : Legal a := by
  induction h with
  | imm a v h => exact h.legal
  | own id off len o cap B => exact .own _ _ _
  | ptr id i off B => exact .ptr _ _ _
  | agg cs vs f h1 h2 h3 _ ih => exact .agg cs (of_mem ih)
  | tup cs vs f h1 h2 _ ih => exact .tup cs (of_mem ih)
  | fn f caps vs g h1 h2 h3 _ ih => exact .fn f caps (of_mem ih)

end Go.Proofs.YtpbniieiinhliaaGreat.V

namespace Go.Proofs.YtpbniieiinhliaaGreat.V
open Go.RowKit

variable {P : Program} {w w' : World} {D D' : Nat → Prop} {ι ι' : Names}

def EnvRep (P : Program) (w : World) (D : Nat → Prop) (ι : Names) (env : Env) (a : Act) : Prop := ∀ t, Rep P w D ι (env t) (a.tmps.getD t undef)

theorem mapM_kOf {vs : List Value} {cs : List K} (h : vs.mapM kOf = some cs) : cs.length = vs.length ∧ ∀ (j : Nat) (c : K), cs[j]? = some c → vs[j]? = some c.val := by
  induction vs generalizing cs with
  | nil => simp at h; subst h; simp
  | cons v r ih =>
    simp only [List.mapM_cons, Option.bind_eq_bind, Option.bind_eq_some_iff] at h
    obtain ⟨c, hc, cs', hcs, h⟩ := h
    simp at h; subst h
    obtain ⟨h1, h2⟩ := ih hcs
    refine ⟨by simp [h1], fun j d hd => ?_⟩
    cases j with
    | zero => simp at hd ⊢; subst hd; exact kOf_val hc
    | succ j => simp at hd ⊢; exact h2 j d hd

theorem kAgg {vs : List Value} {cs : List K} (h : vs.mapM kOf = some cs) : Rep P w D ι (.agg (cs.map K.av)) (.agg vs.toArray) := by
  obtain ⟨h1, h2⟩ := mapM_kOf h
  refine .agg _ _ (fun j => vs.getD j undef) (by simp [h1]) (fun a ha => ?_) (fun j hj => ?_) (fun j a ha => ?_)
  · obtain ⟨c, _, rfl⟩ := List.mem_map.1 ha; exact c.av_cell
  · simp at hj; simp [List.getElem?_eq_getElem (show j < vs.length by omega)]
  · simp only [List.getElem?_map, Option.map_eq_some_iff] at ha
    obtain ⟨c, hc, rfl⟩ := ha
    rw [List.getD_eq_getElem?_getD, h2 j c hc]; exact rep_k c

theorem rep_O {env : Env} {a : Act} {x : Operand} {y : O} (E : EnvRep P w D ι env a) (h : cO P x = some y) : Rep P w D ι (evO env y) (a.eval x) := by
  unfold cO at h
  split at h
  · simp at h; subst h; exact E _
  · simp only [Option.map_eq_some_iff] at h
    obtain ⟨cs, hcs, rfl⟩ := h
    have := kAgg (P := P) (w := w) (D := D) (ι := ι) hcs
    simpa [Act.eval, evO] using this
  · simp only [Option.map_eq_some_iff] at h
    obtain ⟨c, hc, rfl⟩ := h
    simp only [Act.eval, evO]
    rw [kOf_val hc]; exact rep_k c
  · simp at h
  · split at h
    · rename_i hc
      simp at h; subst h
      simp only [Act.eval, evO]
      exact .fn _ _ _ (fun _ => undef) hc rfl (fun j hj => by simp at hj) (fun j a h => by simp at h)
    · simp at h

/-- The operation yields a value and leaves the world alone. -/
def Yld (P : Program) (a : Act) (o : Oper) (w : World) (D : Nat → Prop) (ι : Names) (v : AV) : Prop := ∃ u, (execOp a.eval o).run P w = .ok (.value u) w ∧ Rep P w D ι v u

section
variable {g : Rows} {hs : Nat} {env : Env} {a : Act} {o : Oper} {id : Id} {v : AV}

theorem y_mov {x : Operand} {y : O} (E : EnvRep P w D ι env a) (ho : o.op = .move x ∨ o.op = .assign x) (hx : cO P x = some y) : Yld P a o w D ι (evO env y) := by
  refine ⟨a.eval x, ?_, rep_O E hx⟩
  rcases ho with h | h <;> simp [execOp, h, go_sem]

theorem y_pick {c x y : Operand} {c' x' y' : O} (E : EnvRep P w D ι env a) (ho : o.op = .pick c x y) (hc : cO P c = some c') (hx : cO P x = some x') (hy : cO P y = some y') (hv : vpick (evO env c') (evO env x') (evO env y') = some v) : Yld P a o w D ι v := by
  unfold vpick at hv
  split at hv
  · rename_i b hb
    simp at hv; subst hv
    have h1 := rep_bool (hb ▸ rep_O E hc)
    refine ⟨if b then a.eval x else a.eval y, by simp only [execOp, ho, h1, asBool]; rfl, ?_⟩
    cases b
    · exact rep_O E hy
    · exact rep_O E hx
  · simp at hv

theorem y_bin {op : BinOp} {x y : Operand} {x' y' : O} {t yt : TypeId} (E : EnvRep P w D ι env a) (ho : o.op = .binOp op t x y yt) (he : op ≠ .eql) (hn : op ≠ .neq) (hx : cO P x = some x') (hy : cO P y = some y') (hv : vbin op (evO env x') (evO env y') = some v) : Yld P a o w D ι v := by
  unfold vbin at hv
  split at hv
  · rename_i k n k' m hb hb'
    split at hv
    · rename_i hk
      subst hk
      have h1 := rep_int (hb ▸ rep_O E hx)
      have h2 := rep_int (hb' ▸ rep_O E hy)
      have key : ∀ u, (binOp op t (.int k n) (.int k m)).run P w = .ok u w → (execOp a.eval o).run P w = .ok (.value u) w := fun u hu => by
        have e0 : eqGuard op t x y (.int k n) (.int k m) = pure () := by unfold eqGuard; cases op <;> rfl
        simp only [execOp, ho, h1, h2, e0]
        simp [go_sem, hu]
      cases op <;> simp only [ibin] at hv <;> (try (simp at hv; done)) <;> (try split at hv) <;> (try (simp at hv; done)) <;> simp only [Option.some.injEq] at hv <;> subst hv <;>
        (refine ⟨_, key _ (by simp only [binOp, ne_eq, not_true_eq_false, if_false, Op.intArith, Op.intDiv, Op.intBits, Op.intCmp, *]; rfl), ?_⟩) <;>
        first
          | exact .imm _ _ (.int _ _)
          | exact .imm _ _ (.bool _)
    · simp at hv
  · simp at hv

theorem y_cmpS {op : BinOp} {x y : Operand} {x' y' : O} {t yt : TypeId} (E : EnvRep P w D ι env a) (ho : o.op = .binOp op t x y yt) (he : op ≠ .eql) (hn : op ≠ .neq) (hx : cO P x = some x') (hy : cO P y = some y') (hv : vsbin op (evO env x') (evO env y') = some v) : Yld P a o w D ι v := by
  unfold vsbin at hv
  split at hv
  · rename_i n m hb hb'
    have h1 := rep_str (hb ▸ rep_O E hx)
    have h2 := rep_str (hb' ▸ rep_O E hy)
    cases op <;> simp only [sbin] at hv <;> (try (simp at hv; done))
    case add =>
      split at hv
      · rename_i hl
        simp only [Option.some.injEq] at hv; subst hv
        exact ⟨_, by simp only [execOp, ho, h1, h2]; simp [eqGuard, binOp, go_sem]; exact hl, .imm _ _ (.str _)⟩
      · simp at hv
    all_goals
      simp only [Option.some.injEq] at hv; subst hv
      exact ⟨_, by simp only [execOp, ho, h1, h2]; simp [eqGuard, binOp, Op.stringOp, go_sem], .imm _ _ (.bool _)⟩
  · simp at hv

theorem str_dec (n m : ByteArray) : (n.toList == m.toList) = decide (n = m) := by
  rw [ByteArray.toList_eq, ByteArray.toList_eq]
  by_cases h : n = m
  · subst h; simp
  · have : n.data.toList ≠ m.data.toList := fun he => h (ByteArray.ext (Array.ext' he))
    rw [decide_eq_false h]; exact beq_eq_false_iff_ne.2 this

theorem scalarT_b {t : TypeId} (h : scalarT P t = some .tB) : P.underlying t = some .bool := by unfold scalarT at h; split at h <;> simp_all
theorem scalarT_i {t : TypeId} (h : scalarT P t = some .tI) : ∃ k, P.underlying t = some (.int k) := by unfold scalarT at h; split at h <;> simp_all
theorem scalarT_s {t : TypeId} (h : scalarT P t = some .tS) : P.underlying t = some .string := by unfold scalarT at h; split at h <;> simp_all

theorem run_equalIn1 {d : Nat} {t : TypeId} {s : TS} {x y : AV} {u u' : Value} {b : Bool} (hx : Rep P w D ι x u) (hy : Rep P w D ι y u') (hv : eq1 s x y = some b) (ht : scalarT P t = some s) : (Op.equalIn (d + 1) t u u').run P w = .ok b w := by
  unfold eq1 at hv
  split at hv
  · rename_i k n k' m
    split at hv
    · rename_i hk
      subst hk
      simp at hv; subst hv
      obtain ⟨q, hq⟩ := scalarT_i ht
      rw [rep_int hx, rep_int hy, run_equalIn_int _ _ _ _ _ _ _ hq]; rfl
    · simp at hv
  · simp at hv; subst hv
    rw [rep_bool hx, rep_bool hy, run_equalIn_bool' _ _ _ _ _ (scalarT_b ht)]
  · simp at hv; subst hv
    rw [rep_str hx, rep_str hy, run_equalIn_string _ _ _ _ _ (scalarT_s ht), str_dec]
  · simp at hv

/-- A list of values lies in an array. -/
def RepL (P : Program) (w : World) (D : Nat → Prop) (ι : Names) (xs : List AV) (vs : Array Value) : Prop := vs.size = xs.length ∧ ∀ (j : Nat) (a : AV), xs[j]? = some a → ∃ u, vs[j]? = some u ∧ Rep P w D ι a u

theorem RepL.part {xs : List AV} {vs : Array Value} (h : RepL P w D ι xs vs) (off n : Nat) (hn : off + n ≤ xs.length) : RepL P w D ι ((xs.drop off).take n) (vs.extract off (off + n)) := by
  refine ⟨by simp [h.1]; omega, fun j a ha => ?_⟩
  rw [List.getElem?_take] at ha
  split at ha
  · rename_i hj
    rw [List.getElem?_drop] at ha
    obtain ⟨u, h1, h2⟩ := h.2 _ _ ha
    refine ⟨u, ?_, h2⟩
    rw [Array.getElem?_extract]
    rw [if_pos (by rw [h.1]; omega), h1]
  · simp at ha

theorem eqL_len : ∀ {ts : List TS} {xs ys : List AV} {b : Bool}, eqL ts xs ys = some b → xs.length = ts.length ∧ ys.length = ts.length
  | [], [], [], _, _ => ⟨rfl, rfl⟩
  | t :: ts, x :: xs, y :: ys, b, h => by
    unfold eqL at h
    split at h
    · rename_i c d h1 h2
      have := eqL_len h2
      simp [this.1, this.2]
    · simp at h
  | [], [], _ :: _, _, h => by simp [eqL] at h
  | [], _ :: _, _, _, h => by simp [eqL] at h
  | _ :: _, [], _, _, h => by simp [eqL] at h
  | _ :: _, _ :: _, [], _, h => by simp [eqL] at h

theorem eqL_app : ∀ {ts us : List TS} {xs ys : List AV} {b : Bool}, eqL (ts ++ us) xs ys = some b → ∃ c d, eqL ts (xs.take ts.length) (ys.take ts.length) = some c ∧ eqL us (xs.drop ts.length) (ys.drop ts.length) = some d ∧ b = (c && d)
  | [], us, xs, ys, b, h => ⟨true, b, by simp [eqL], by simpa using h, by simp⟩
  | t :: ts, us, x :: xs, y :: ys, b, h => by
    simp only [List.cons_append] at h
    unfold eqL at h
    split at h
    · rename_i c d h1 h2
      obtain ⟨c', d', h3, h4, rfl⟩ := eqL_app h2
      simp at h; subst h
      exact ⟨c && c', d', by simp [eqL, h1, h3], by simpa using h4, by simp [Bool.and_assoc]⟩
    · simp at h
  | t :: ts, us, [], ys, b, h => by simp [eqL] at h
  | t :: ts, us, x :: xs, [], b, h => by simp [eqL] at h

theorem run_part1 {t : TypeId} {vs : Array Value} {off : Nat} {u : Value} (ha : cAgg P t = some false) (hu : vs[off]? = some u) : (Go.part t vs off).run P w = .ok u w := by
  unfold cAgg at ha
  have hi : (isAgg t).run P w = .ok false w := by
    split at ha <;> simp at ha
    rename_i d h1 h2 hd
    simp only [isAgg, Sem.run_bind, run_underlying hd, Result.andThen_ok]
    cases d <;> simp_all
  simp [Go.part, hi, hu]
theorem run_isAgg {t : TypeId} {b : Bool} (ha : cAgg P t = some b) : (isAgg t).run P w = .ok b w := by
  unfold cAgg at ha
  split at ha <;> simp at ha <;> subst ha <;> rename_i hd <;> simp only [isAgg, Sem.run_bind, run_underlying hd, Result.andThen_ok] <;> (try simp)
theorem run_sizeOf {t : TypeId} {n : Nat} (h : cSize P t = some n) : (sizeOf t).run P w = .ok n w := by
  unfold cSize at h
  simp only [Option.map_eq_some_iff] at h
  obtain ⟨i, hi, rfl⟩ := h
  simp [sizeOf, typeInfo, hi]
theorem run_partA {t : TypeId} {vs : Array Value} {off n : Nat} (ha : cAgg P t = some true) (hn : cSize P t = some n) : (Go.part t vs off).run P w = .ok (.agg (vs.extract off (off + n))) w := by
  simp [Go.part, run_isAgg ha, run_sizeOf hn]

theorem flat_nil (d off : Nat) : flatFields P (d + 1) off [] = some [] := rfl
theorem flat_cons (d off : Nat) (f : Field) (r : List Field) : flatFields P (d + 1) off (f :: r) = (if f.offset = off ∧ f.name ≠ "_" then
      match scalarT P f.type with
      | some t => if cAgg P f.type = some false then (flatFields P (d + 1) (off + 1) r).map (t :: ·) else none
      | none => match P.underlying f.type with
        | some (.struct fs) => if !P.stoodInHeld f.type then match flatFields P d 0 fs.toList with
          | some ts => if cSize P f.type = some ts.length ∧ ts ≠ [] then (flatFields P (d + 1) (off + ts.length) r).map (ts ++ ·) else none
          | none => none else none
        | _ => none
    else none) := rfl

theorem run_eqFields : ∀ (d : Nat) (fs : List Field) (off : Nat) (ts : List TS), flatFields P d off fs = some ts → ∀ (N : Nat) (_ : d ≤ N) (xs ys : List AV) (vs us : Array Value) (b : Bool), RepL P w D ι xs vs → RepL P w D ι ys us →
    eqL ts ((xs.drop off).take ts.length) ((ys.drop off).take ts.length) = some b → (Op.eqFields (N + 1) vs us fs).run P w = .ok b w := by
  intro d
  induction d with
  | zero =>
    intro fs off ts hf N _ xs ys vs us b _ _ he
    cases fs with
    | nil => simp [flatFields] at hf; subst hf; simp [eqL] at he; subst he; simp [Op.eqFields]
    | cons f r => simp [flatFields] at hf
  | succ d ihd =>
    intro fs
    induction fs with
    | nil =>
      intro off ts hf N _ xs ys vs us b _ _ he
      rw [flat_nil] at hf; simp at hf; subst hf; simp [eqL] at he; subst he; simp [Op.eqFields]
    | cons f r ih =>
      intro off ts hf N hN xs ys vs us b hx hy he
      rw [flat_cons] at hf
      split at hf
      · rename_i hcond
        obtain ⟨ho, hne⟩ := hcond
        split at hf
        · rename_i s hs
          split at hf
          · rename_i hag
            simp only [Option.map_eq_some_iff] at hf
            obtain ⟨ts', hr, rfl⟩ := hf
            obtain ⟨l1, l2⟩ := eqL_len he
            simp only [List.length_cons, List.length_take, List.length_drop] at l1 l2
            have hxo : off < xs.length := by omega
            have hyo : off < ys.length := by omega
            rw [List.drop_eq_getElem_cons hxo, List.drop_eq_getElem_cons hyo, List.length_cons, List.take_succ_cons, List.take_succ_cons] at he
            unfold eqL at he
            split at he
            · rename_i c d' h1 h2
              simp at he; subst he
              obtain ⟨u, hu, ru⟩ := hx.2 off _ (List.getElem?_eq_getElem hxo)
              obtain ⟨u', hu', ru'⟩ := hy.2 off _ (List.getElem?_eq_getElem hyo)
              have := ih (off + 1) ts' hr N hN xs ys vs us d' hx hy h2
              simp only [Op.eqFields, if_pos hne, Sem.run_bind, ho, run_part1 hag hu, run_part1 hag hu', Result.andThen_ok, run_equalIn1 ru ru' h1 hs, Sem.run_ite]
              cases c <;> simp [this]
            · simp at he
          · simp at hf
        · split at hf
          · rename_i fs' hfs
            split at hf
            · rename_i hst
              split at hf
              · rename_i ts1 hts1
                split at hf
                · rename_i hsz
                  simp only [Option.map_eq_some_iff] at hf
                  obtain ⟨ts', hr, rfl⟩ := hf
                  obtain ⟨c, d', h1, h2, rfl⟩ := eqL_app he
                  obtain ⟨l1, l2⟩ := eqL_len he
                  simp only [List.length_append, List.length_take, List.length_drop] at l1 l2
                  have hag : cAgg P f.type = some true := by simp [cAgg, hfs]
                  have hpos : 0 < ts1.length := List.length_pos_iff.2 hsz.2
                  have hx1 : off + ts1.length ≤ xs.length := by omega
                  have hy1 : off + ts1.length ≤ ys.length := by omega
                  rw [List.drop_take, List.drop_drop, List.drop_take, List.drop_drop] at h2
                  rw [List.take_take, List.take_take] at h1
                  simp only [List.length_append] at h1 h2
                  rw [Nat.min_eq_left (by omega)] at h1
                  have e2 : ts1.length + ts'.length - ts1.length = ts'.length := by omega
                  rw [e2] at h2
                  have := ih (off + ts1.length) ts' hr N hN xs ys vs us d' hx hy h2
                  have hin := ihd fs'.toList 0 ts1 hts1 (N - 1) (by omega) _ _ _ _ c (hx.part off ts1.length hx1) (hy.part off ts1.length hy1) (by simpa [List.take_take] using h1)
                  have hN' : N - 1 + 1 = N := by omega
                  rw [hN'] at hin
                  have hfo : P.fieldsOf f.type = fs' := by simp [Program.fieldsOf, hfs]
                  simp only [Op.eqFields, if_pos hne, Sem.run_bind, ho, run_partA hag hsz.1, Result.andThen_ok, Sem.run_ite]
                  rw [run_equalIn_struct w N f.type _ _ (by rw [hfo]; exact hfs) (by simpa using hst), hfo, hin]
                  cases c <;> simp [this]
                · simp at hf
              · simp at hf
            · simp at hf
          · simp at hf
      · simp at hf


theorem y_eqS {x y : Operand} {x' y' : O} {t yt : TypeId} {neg : Bool} {s : TS} {b : Bool} (E : EnvRep P w D ι env a) (ho : o.op = .binOp (if neg then .neq else .eql) t x y yt) (hs : scalarT P t = some s) (hx : cO P x = some x') (hy : cO P y = some y')
    (hv : eq1 s (evO env x') (evO env y') = some b) : Yld P a o w D ι (.bool (xorB neg b)) := by
  have rx := rep_O E hx
  have ry := rep_O E hy
  refine ⟨.bool (xorB neg b), ?_, .imm _ _ (.bool _)⟩
  have e0 : (eqGuard (if neg then .neq else .eql) t x y (a.eval x) (a.eval y)).run P w = .ok () w := by
    unfold eq1 at hv
    split at hv
    · rename_i k n k' m h1 h2
      rw [h1] at rx; rw [h2] at ry
      rw [rep_int rx, rep_int ry]; unfold eqGuard; cases neg <;> simp
    · rename_i n m h1 h2
      rw [h1] at rx; rw [h2] at ry
      rw [rep_bool rx, rep_bool ry]; unfold eqGuard; cases neg <;> simp
    · rename_i n m h1 h2
      rw [h1] at rx; rw [h2] at ry
      rw [rep_str rx, rep_str ry]; unfold eqGuard; cases neg <;> simp
    · simp at hv
  have e1 : (binOp (if neg then .neq else .eql) t (a.eval x) (a.eval y)).run P w = .ok (.bool (xorB neg b)) w := by
    have q := run_equalIn1 (d := 9999) rx ry hv hs
    unfold eq1 at hv
    split at hv
    · rename_i k n k' m h1 h2
      split at hv
      · rename_i hk
        subst hk
        simp at hv; subst hv
        rw [h1] at rx; rw [h2] at ry
        rw [rep_int rx, rep_int ry]
        cases neg <;> simp only [binOp, ne_eq, not_true_eq_false, if_false, Op.intCmp, xorB, if_true, Bool.false_eq_true] <;> simp [bne] <;> rfl
      · simp at hv
    · rename_i n m h1 h2
      rw [h1] at rx; rw [h2] at ry
      rw [rep_bool rx, rep_bool ry] at q ⊢
      cases neg <;> simp only [binOp, xorB, if_true, Bool.false_eq_true, if_false, Sem.run_bind] <;> simp [Op.equal, Op.maxDepth, q]
    · rename_i n m h1 h2
      simp at hv; subst hv
      rw [h1] at rx; rw [h2] at ry
      rw [rep_str rx, rep_str ry]
      cases neg <;> simp [binOp, Op.stringOp, xorB, str_dec]
    · simp at hv
  simp only [execOp, ho, Sem.run_bind, e0, e1, Result.andThen_ok, Sem.run_pure]

theorem y_eqA {x y : Operand} {x' y' : O} {t yt : TypeId} {neg : Bool} {ts : List TS} {fs : Array Field} {xs ys : List AV} {b : Bool} (E : EnvRep P w D ι env a) (ho : o.op = .binOp (if neg then .neq else .eql) t x y yt) (hfs : P.underlying t = some (.struct fs)) (hst : P.stoodInHeld t = false) (hgt : P.eqGuardType P.depth t = false)
    (hts : flatFields P 4 0 fs.toList = some ts) (hx : cO P x = some x') (hy : cO P y = some y') (h1 : evO env x' = .agg xs) (h2 : evO env y' = .agg ys)
    (hv : eqL ts xs ys = some b) : Yld P a o w D ι (.bool (xorB neg b)) := by
  obtain ⟨vs, f, rx, n1, _, f1, r1⟩ := rep_agg (h1 ▸ rep_O E hx)
  obtain ⟨us, f', ry, n2, _, f2, r2⟩ := rep_agg (h2 ▸ rep_O E hy)
  refine ⟨.bool (xorB neg b), ?_, .imm _ _ (.bool _)⟩
  obtain ⟨l1, l2⟩ := eqL_len hv
  have L : ∀ (xs : List AV) (vs : Array Value) (f : Nat → Value), vs.size = xs.length → (∀ j, j < xs.length → vs[j]? = some (f j)) → (∀ j a, xs[j]? = some a → Rep P w D ι a (f j)) → RepL P w D ι xs vs := fun xs vs f h1 h2 h3 =>
    ⟨h1, fun j a ha => ⟨f j, h2 j (List.getElem?_eq_some_iff.1 ha).1, h3 j a ha⟩⟩
  have q := run_eqFields (w := w) 4 fs.toList 0 ts hts 9998 (by omega) xs ys vs us b (L _ _ _ n1 f1 r1) (L _ _ _ n2 f2 r2) (by simpa [List.take_of_length_le, l1, l2] using hv)
  have hfo : P.fieldsOf t = fs := by simp [Program.fieldsOf, hfs]
  have q2 : (Op.equal t (.agg vs) (.agg us)).run P w = .ok b w := by
    unfold Op.equal
    rw [show Op.maxDepth = 9999 + 1 from rfl, run_equalIn_struct w 9999 t _ _ (by rw [hfo]; exact hfs) hst, hfo, q]
  simp only [execOp, ho, Sem.run_bind, rx, ry, run_eqGuard_agg w _ _ _ _ _ _ hgt, Result.andThen_ok]
  cases neg <;> simp [binOp, q2, xorB]

theorem y_eqNs {x : Operand} {x' : O} {t yt e : TypeId} {neg : Bool} {b : Bool} (E : EnvRep P w D ι env a) (ho : o.op = .binOp (if neg then .neq else .eql) t x (.const (.slice none 0 0)) yt) (ht : P.underlying t = some (.slice e)) (hx : cO P x = some x')
    (hv : vnilS (evO env x') = some b) : Yld P a o w D ι (.bool (xorB neg b)) := by
  have hr := rep_O E hx
  have rx : ∃ A n c, a.eval x = .slice A n c ∧ b = A.isNone := by
    unfold vnilS at hv
    split at hv <;> simp at hv <;> subst hv <;> rename_i hh
    · rw [hh] at hr; exact ⟨_, _, _, rep_nils hr, rfl⟩
    · rw [hh] at hr; obtain ⟨o, cap, B, h, _⟩ := rep_own hr
      exact ⟨_, _, _, h, rfl⟩
    · rw [hh] at hr
      obtain ⟨A, c, h', _, _, h⟩ := rep_sl hr
      rcases h with h | ⟨b, o, sz, vs, rfl, _⟩
      · simp at h
      · exact ⟨_, _, _, h', rfl⟩
  refine ⟨.bool (xorB neg b), ?_, .imm _ _ (.bool _)⟩
  obtain ⟨A, n, c, h, rfl⟩ := rx
  have hq : (Op.equal t (.slice A n c) (.slice none 0 0)).run P w = .ok A.isNone w := by
    unfold Op.equal
    rw [show Op.maxDepth = 9999 + 1 from rfl, Op.equalIn]
    simp only [Sem.run_bind, run_underlying ht, Result.andThen_ok]
    cases A <;> rfl
  have hc : a.eval (.const (.slice none 0 0)) = .slice none 0 0 := rfl
  simp only [execOp, ho, h, hc]
  cases neg <;> simp only [Bool.false_eq_true, if_false, if_true, Bool.not_true, Bool.not_false, eqGuard, binOp, xorB, Sem.run_bind, hq, Result.andThen_ok, Sem.run_pure]

theorem y_eqNf {x : Operand} {x' : O} {t yt : TypeId} {p r : Array TypeId} {va : Bool} {neg : Bool} {b : Bool} (E : EnvRep P w D ι env a) (ho : o.op = .binOp (if neg then .neq else .eql) t x (.const .nilFunc) yt) (ht : P.underlying t = some (.func p r va)) (hx : cO P x = some x')
    (hv : vnilF (evO env x') = some b) : Yld P a o w D ι (.bool (xorB neg b)) := by
  have hr := rep_O E hx
  have rx : a.eval x = .nilFunc ∧ b = true ∨ ∃ f c, a.eval x = .func f #[] c ∧ b = false := by
    unfold vnilF at hv
    split at hv <;> simp at hv <;> subst hv <;> rename_i hh
    · rw [hh] at hr; exact .inl ⟨rep_nilf hr, rfl⟩
    · rw [hh] at hr; obtain ⟨vs, g, h, _⟩ := rep_fn hr
      exact .inr ⟨_, _, h, rfl⟩
  refine ⟨.bool (xorB neg b), ?_, .imm _ _ (.bool _)⟩
  have hc : a.eval (.const .nilFunc) = .nilFunc := rfl
  rcases rx with ⟨h, rfl⟩ | ⟨f, c, h, rfl⟩
  · have hq : (Op.equal t .nilFunc .nilFunc).run P w = .ok true w := by
      unfold Op.equal
      rw [show Op.maxDepth = 9999 + 1 from rfl, Op.equalIn]
      simp only [Sem.run_bind, run_underlying ht, Result.andThen_ok]
      rfl
    simp only [execOp, ho, h, hc]
    cases neg <;> simp only [Bool.false_eq_true, if_false, if_true, Bool.not_true, Bool.not_false, eqGuard, binOp, xorB, Sem.run_bind, hq, Result.andThen_ok, Sem.run_pure]
  · have hq : (Op.equal t (.func f #[] c) .nilFunc).run P w = .ok false w := by
      unfold Op.equal
      rw [show Op.maxDepth = 9999 + 1 from rfl, Op.equalIn]
      simp only [Sem.run_bind, run_underlying ht, Result.andThen_ok]
      rfl
    simp only [execOp, ho, h, hc]
    cases neg <;> simp only [Bool.false_eq_true, if_false, if_true, Bool.not_true, Bool.not_false, eqGuard, binOp, xorB, Sem.run_bind, hq, Result.andThen_ok, Sem.run_pure]

theorem y_not {x : Operand} {x' : O} {t : TypeId} (E : EnvRep P w D ι env a) (ho : o.op = .unOp .not t x) (hx : cO P x = some x') (hv : vnot (evO env x') = some v) : Yld P a o w D ι v := by
  have hr := rep_O E hx
  unfold vnot at hv
  split at hv
  · rename_i b hb
    simp at hv; subst hv
    rw [hb] at hr
    exact ⟨_, by simp only [execOp, ho, rep_bool hr]; rfl, .imm _ _ (.bool _)⟩
  · simp at hv
theorem y_neg {x : Operand} {x' : O} {t : TypeId} (E : EnvRep P w D ι env a) (ho : o.op = .unOp .neg t x) (hx : cO P x = some x') (hv : vneg (evO env x') = some v) : Yld P a o w D ι v := by
  have hr := rep_O E hx
  unfold vneg at hv
  split at hv
  · rename_i k n hb
    simp at hv; subst hv
    rw [hb] at hr
    refine ⟨_, by simp only [execOp, ho, rep_int hr]; rfl, ?_⟩
    rw [Int.zero_sub]; exact .imm _ _ (.int _ _)
  · simp at hv
theorem y_conv {x : Operand} {x' : O} {s d : TypeId} {k q : IntKind} (E : EnvRep P w D ι env a) (ho : o.op = .convert s d x) (hs : P.underlying s = some (.int q)) (hd : P.underlying d = some (.int k)) (hx : cO P x = some x') (hv : vconv k (evO env x') = some v) : Yld P a o w D ι v := by
  have hr := rep_O E hx
  unfold vconv at hv
  split at hv
  · rename_i k' n hb
    simp at hv; subst hv
    rw [hb] at hr
    refine ⟨.int k (k.wrap n), ?_, .imm _ _ (.int _ _)⟩
    simp only [execOp, ho, rep_int hr, convert, Sem.run_bind, run_underlying hs, run_underlying hd, Result.andThen_ok, Conv.intToInt, Sem.run_pure]
  · simp at hv
theorem y_faddr {x : Operand} {x' : O} {s : TypeId} {i : Nat} {fs : Array Field} {f : Field} {m : Nat} (E : EnvRep P w D ι env a) (ho : o.op = .fieldAddr s x i) (hs : P.underlying s = some (.struct fs)) (hf : fs[i]? = some f) (hm : cSize P f.type = some (m + 1)) (hx : cO P x = some x')
    (hv : vfaddr f.offset (evO env x') = some v) : Yld P a o w D ι v := by
  have hr := rep_O E hx
  have go : ∀ b oo, a.eval x = .pointer (some ⟨b, oo, none⟩) → (execOp a.eval o).run P w = .ok (.value (.pointer (some ⟨b, oo + f.offset, none⟩))) w := fun b oo h => by
    simp only [execOp, ho, h, Instr.fieldAt, Sem.run_bind, run_underlying hs, Result.andThen_ok, hf, Instr.sureAddr, Sem.run_pure, fieldPlace, run_sizeOf hm, Nat.add_eq_zero_iff, Nat.one_ne_zero, and_false, if_false, Addr.add]
    split
    · rename_i h0; simp [h0]
    · rfl
  unfold vfaddr at hv
  split at hv
  · rename_i id' i' oo hb
    simp at hv; subst hv
    rw [hb] at hr
    obtain ⟨B, h, hB⟩ := rep_ptr hr
    refine ⟨_, go _ _ h, ?_⟩
    rw [Nat.add_assoc]
    exact .ptr _ _ _ _ hB
  · rename_i cs hb
    simp at hv; subst hv
    rw [hb] at hr
    obtain ⟨b, oo, vs, h, h1, h2, h3, h4⟩ := rep_iptr hr
    refine ⟨_, go _ _ h, .imm _ _ (.iptr _ _ _ (fun j => vs (f.offset + j)) h1 (fun a ha => h2 a (List.mem_of_mem_drop ha)) (fun j hj => ?_) (fun j a ha => h4 _ _ (by simpa using ha)))⟩
    rw [Nat.add_assoc]
    exact h3 _ (by simp at hj; omega)
  · simp at hv
theorem y_field {x : Operand} {x' : O} {s : TypeId} {i n : Nat} {ag : Bool} {fs : Array Field} {f : Field} (E : EnvRep P w D ι env a) (ho : o.op = .field s x i) (hs : P.underlying s = some (.struct fs)) (hf : fs[i]? = some f) (hag : cAgg P f.type = some ag) (hm : cSize P f.type = some n) (hx : cO P x = some x')
    (hv : vfield ag f.offset n (evO env x') = some v) : Yld P a o w D ι v := by
  have hr := rep_O E hx
  unfold vfield at hv
  split at hv
  · rename_i cs hb
    split at hv
    · rename_i hl
      rw [hb] at hr
      obtain ⟨vs, g, h, n1, fl, f1, r1⟩ := rep_agg hr
      unfold part at hv
      cases ag with
      | true =>
        simp only [if_true] at hv
        split at hv
        · simp at hv; subst hv
          refine ⟨.agg (vs.extract f.offset (f.offset + n)), ?_, .agg _ _ (fun j => g (f.offset + j)) (by simp [n1]; omega) (fun a ha => fl a (List.mem_of_mem_drop (List.mem_of_mem_take ha))) (fun j hj => ?_) (fun j a ha => ?_)⟩
          · simp only [execOp, ho, h, Instr.field, Sem.run_bind, run_underlying hs, Result.andThen_ok, hf, asAgg, Sem.run_pure, run_partA hag hm]
          · simp at hj
            rw [Array.getElem?_extract, if_pos (by omega)]; exact f1 _ (by omega)
          · rw [List.getElem?_take] at ha
            split at ha
            · exact r1 _ _ (by simpa using ha)
            · simp at ha
        · simp at hv
      | false =>
        simp only [Bool.false_eq_true, if_false] at hv
        have hv' : cs[f.offset]? = some v := by simpa [List.head?_drop] using hv
        have hlt := (List.getElem?_eq_some_iff.1 hv').1
        exact ⟨g f.offset, by simp only [execOp, ho, h, Instr.field, Sem.run_bind, run_underlying hs, Result.andThen_ok, hf, asAgg, Sem.run_pure, run_part1 hag (f1 _ hlt)], r1 _ _ hv'⟩
    · simp at hv
  · simp at hv

theorem y_sh {left : Bool} {x y : Operand} {x' y' : O} {t yt : TypeId} (E : EnvRep P w D ι env a) (ho : o.op = .binOp (if left then .shl else .shr) t x y yt) (hx : cO P x = some x') (hy : cO P y = some y') (hv : vsh left (evO env x') (evO env y') = some v) : Yld P a o w D ι v := by
  unfold vsh at hv
  split at hv
  · rename_i k n k' m hb hb'
    split at hv
    · simp at hv
    · rename_i hm
      simp at hv; subst hv
      have h1 := rep_int (hb ▸ rep_O E hx)
      have h2 := rep_int (hb' ▸ rep_O E hy)
      refine ⟨_, ?_, .imm _ _ (.int _ _)⟩
      simp only [execOp, ho, h1, h2]
      cases left <;> simp only [Bool.false_eq_true, if_false, if_true, eqGuard, Bool.not_true, Bool.not_false, binOp, Op.shift, hm, Sem.run_bind, Sem.run_pure, Result.andThen_ok] <;> rfl
  · simp at hv

end
end Go.Proofs.YtpbniieiinhliaaGreat.V

namespace Go.Proofs.YtpbniieiinhliaaGreat.V
open Go.RowKit

variable {P : Program} {w w' : World} {D D' : Nat → Prop} {ι ι' : Names}

theorem add_mk (b o j : Nat) : (⟨b, o, none⟩ : Addr).add j = ⟨b, o + j, none⟩ := by unfold Addr.add; split <;> simp_all

section
variable {g : Rows} {hs : Nat} {env : Env} {a : Act} {o : Oper} {id : Id} {v : AV}

/-- What a list of cells at an address is loaded as. -/
theorem run_loadPart {t : TypeId} {ag : Bool} {n b oo : Nat} {cs : List AV} {v : AV} {f : Nat → Value} (hag : cAgg P t = some ag) (hn : cSize P t = some n) (hp : part ag n cs = some v) (fl : ∀ a ∈ cs, a.cell = true)
    (hc : ∀ j, j < cs.length → w.cell? ⟨b, oo + j, none⟩ = some (f j)) (hr : ∀ j a, cs[j]? = some a → Rep P w D ι a (f j)) : ∃ u, (loadVar t ⟨b, oo, none⟩).run P w = .ok u w ∧ Rep P w D ι v u := by
  unfold part at hp
  cases ag with
  | true =>
    simp only [if_true] at hp
    split at hp
    · rename_i hl
      simp at hp; subst hp
      refine ⟨.agg ((List.range n).map f).toArray, ?_, .agg _ _ f (by simp; omega) (fun a ha => fl a (List.mem_of_mem_take ha)) (fun j hj => ?_) (fun j a ha => ?_)⟩
      · simp only [loadVar, Sem.run_bind, run_isAgg hag, Result.andThen_ok, if_true, run_sizeOf hn, Sem.run_pure]
        rw [run_loadCells w _ n f (fun j hj => by rw [add_mk]; exact hc j (by omega))]
        rfl
      · simp at hj
        have : j < n := by omega
        simp [this]
      · rw [List.getElem?_take] at ha
        split at ha
        · exact hr _ _ ha
        · simp at ha
    · simp at hp
  | false =>
    simp only [Bool.false_eq_true, if_false] at hp
    cases cs with
    | nil => simp at hp
    | cons c r =>
      simp at hp; subst hp
      refine ⟨f 0, ?_, hr 0 _ rfl⟩
      simp only [loadVar, Sem.run_bind, run_isAgg hag, Result.andThen_ok, Bool.false_eq_true, if_false]
      have := hc 0 (by simp)
      simp at this
      rw [run_load, this]

theorem row_cs {S : Sim P hs D ι g w} {i : Nat} {cs : List AV} (h : rowAt g id i = some cs) : ∃ B r, g id = some r ∧ ι id = some B ∧ RowIn P w D ι B r ∧ r.rows[i]? = some cs ∧ (∀ a ∈ cs, a.cell = true) ∧ ∃ f : Nat → Value, ∀ j, j < cs.length → w.cell? ⟨B.b, i * B.sz + j, none⟩ = some (f j) ∧ ∀ a, cs[j]? = some a → Rep P w D ι a (f j) := by
  unfold rowAt at h
  simp only [Option.bind_eq_some_iff] at h
  obtain ⟨r, hr, hi⟩ := h
  obtain ⟨B, hB, R, _, _⟩ := S.row id r hr
  refine ⟨B, r, hr, hB, R, hi, R.flat cs (List.mem_of_getElem? hi), fun j => (w.cell? ⟨B.b, i * B.sz + j, none⟩).getD undef, fun j hj => ?_⟩
  obtain ⟨u, hu, hru⟩ := R.at_ i j cs _ hi (List.getElem?_eq_getElem hj)
  rw [R.sz, hu]
  refine ⟨by simp only [hu, Option.getD_some], fun a ha => ?_⟩
  rw [List.getElem?_eq_getElem hj] at ha
  injection ha with ha
  subst ha
  simpa only [hu, Option.getD_some] using hru

theorem y_load {x : Operand} {x' : O} {t : TypeId} {ag : Bool} {n : Nat} (S : Sim P hs D ι g w) (E : EnvRep P w D ι env a) (ho : o.op = .load t x) (hag : cAgg P t = some ag) (hn : cSize P t = some n) (hx : cO P x = some x') (hv : ld g ag n (evO env x') = some v) : Yld P a o w D ι v := by
  have hr := rep_O E hx
  have go : ∀ b oo u, a.eval x = .pointer (some ⟨b, oo, none⟩) → (loadVar t ⟨b, oo, none⟩).run P w = .ok u w → (execOp a.eval o).run P w = .ok (.value u) w := fun b oo u h h2 => by
    simp only [execOp, ho, h, Instr.loadAt, Instr.sureAddr, Sem.run_bind, Sem.run_pure, Result.andThen_ok, h2]
  unfold ld at hv
  split at hv
  · rename_i id' i' oo hb
    rw [hb] at hr
    obtain ⟨B, h, hB⟩ := rep_ptr hr
    simp only [Option.bind_eq_some_iff] at hv
    obtain ⟨cs, hcs, hp⟩ := hv
    obtain ⟨B', r, hgr, hB', R, hi, fl, f, hf⟩ := row_cs (S := S) hcs
    rw [hB] at hB'; injection hB' with hB'; subst hB'
    obtain ⟨u, h1, h2⟩ := run_loadPart (w := w) (b := B.b) (oo := i' * B.sz + oo) (f := fun j => f (oo + j)) hag hn hp (fun a ha => fl a (List.mem_of_mem_drop ha)) (fun j hj => by
      rw [Nat.add_assoc]; exact (hf _ (by simp at hj; omega)).1) (fun j a ha => by
      simp at ha; exact (hf _ ((List.getElem?_eq_some_iff.1 ha).1)).2 _ ha)
    exact ⟨u, go _ _ _ h h1, h2⟩
  · rename_i cs hb
    rw [hb] at hr
    obtain ⟨b, oo, vs, h, h1, h2, h3, h4⟩ := rep_iptr hr
    obtain ⟨u, k1, k2⟩ := run_loadPart (w := w) (b := b) (oo := oo) (f := vs) hag hn hv h2 h3 (fun j a ha => .imm _ _ (h4 j a ha))
    exact ⟨u, go _ _ _ h k1, k2⟩
  · simp at hv

theorem y_chk {x : Operand} {x' : O} (E : EnvRep P w D ι env a) (ho : o.op = .nilCheck x) (hx : cO P x = some x') (hv : vchk (evO env x') = some v) : Yld P a o w D ι v := by
  have hr := rep_O E hx
  unfold vchk at hv
  split at hv
  · rename_i id' i' oo hb
    simp at hv; subst hv
    rw [hb] at hr
    obtain ⟨B, h, hB⟩ := rep_ptr hr
    exact ⟨_, by simp only [execOp, ho, h]; rfl, .ptr _ _ _ _ hB⟩
  · rename_i cs hb
    simp at hv; subst hv
    rw [hb] at hr
    obtain ⟨b, oo, vs, h, _⟩ := rep_iptr hr
    exact ⟨_, by simp only [execOp, ho, h]; rfl, h ▸ hr⟩
  · simp at hv

theorem y_iaddr {x i : Operand} {x' i' : O} {t e : TypeId} {m : Nat} (S : Sim P hs D ι g w) (E : EnvRep P w D ι env a) (ho : o.op = .indexAddr t x i) (ht : P.underlying t = some (.slice e)) (hm : cSize P e = some (m + 1)) (hx : cO P x = some x') (hi : cO P i = some i')
    (hv : viaddr g (m + 1) (evO env x') (evO env i') = some v) : Yld P a o w D ι v := by
  have hr := rep_O E hx
  have hri := rep_O E hi
  have go : ∀ b oo n c k (q : Int), a.eval x = .slice (some ⟨b, oo, none⟩) n c → a.eval i = .int k q → 0 ≤ q → q < n → (execOp a.eval o).run P w = .ok (.value (.pointer (some ⟨b, oo + q.toNat * (m + 1), none⟩))) w := fun b oo n c k q h h2 h3 h4 => by
    simp only [execOp, ho, h, h2, Instr.indexAt, asIntOf, Sem.run_bind, Sem.run_pure, run_underlying ht, Result.andThen_ok, h3, h4, and_self, if_true, run_sizeOf hm, add_mk]
  unfold viaddr at hv
  split at hv
  · rename_i rows k q hb hb'
    split at hv
    · rename_i hq
      simp only [Option.bind_eq_some_iff] at hv
      obtain ⟨cs, hcs, hv⟩ := hv
      split at hv
      · rename_i hlen
        simp at hv; subst hv
        rw [hb] at hr; rw [hb'] at hri
        have hlt := (List.getElem?_eq_some_iff.1 hcs).1
        obtain ⟨A, c, h, h1, h2, h3⟩ := rep_sl hr
        rcases h3 with h3 | ⟨b, oo, sz, vs, rfl, hD, hl, fl, hc, hi⟩
        · subst h3; simp at hcs
        have hsz : sz = m + 1 := by rw [← hlen, hl cs (List.mem_of_getElem? hcs)]
        refine ⟨_, go b oo _ _ k q h (rep_int hri) hq (by omega), .imm _ _ (.iptr cs b _ (vs q.toNat) hD (fl cs (List.mem_of_getElem? hcs)) (fun j hj => ?_) (fun j a ha => hi _ _ _ _ hcs ha))⟩
        have := hc q.toNat j hlt (by rw [← hl cs (List.mem_of_getElem? hcs)]; exact hj)
        rw [hsz] at this
        rw [Nat.add_assoc]; exact this
      · simp at hv
    · simp at hv
  · rename_i id' off len k q hb hb'
    split at hv
    · rename_i hq
      simp only [Option.bind_eq_some_iff] at hv
      obtain ⟨r, hgr, hv⟩ := hv
      split at hv
      · rename_i hrs
        simp at hv; subst hv
        rw [hb] at hr; rw [hb'] at hri
        obtain ⟨oo, cap, B, h, hB, h1, h2, h3, h4⟩ := rep_own hr
        obtain ⟨B', hB', R, _, _⟩ := S.row _ _ hgr
        rw [hB] at hB'; injection hB' with hB'; subst hB'
        have hsz : B.sz = m + 1 := R.sz.trans hrs
        refine ⟨_, go _ _ _ _ k q h (rep_int hri) hq.1 hq.2, ?_⟩
        have h2' : oo = off * B.sz := by rcases h2 with h2 | h2 <;> omega
        have : oo + q.toNat * (m + 1) = (off + q.toNat) * B.sz + 0 := by rw [h2', ← hsz, Nat.add_mul]; rfl
        rw [this]
        exact .ptr _ _ _ _ hB
      · simp at hv
    · simp at hv
  · simp at hv

theorem y_idxS {x i : Operand} {x' i' : O} {t : TypeId} (E : EnvRep P w D ι env a) (ho : o.op = .index t x i) (ht : P.underlying t = some .string) (hx : cO P x = some x') (hi : cO P i = some i')
    (hv : vidxS (evO env x') (evO env i') = some v) : Yld P a o w D ι v := by
  have hr := rep_O E hx
  have hri := rep_O E hi
  unfold vidxS at hv
  split at hv
  · rename_i s k q hb hb'
    split at hv
    · rename_i hq
      simp only [Option.map_eq_some_iff] at hv
      obtain ⟨c, hc, rfl⟩ := hv
      rw [hb] at hr; rw [hb'] at hri
      refine ⟨_, ?_, .imm _ _ (.int _ _)⟩
      simp only [execOp, ho, rep_str hr, rep_int hri, Instr.index, asIntOf, Sem.run_bind, Sem.run_pure, run_underlying ht, Result.andThen_ok, hq, if_true, hc]
    · simp at hv
  · simp at hv

theorem y_idxA {x i : Operand} {x' i' : O} {t e : TypeId} {ag : Bool} {len n : Nat} (E : EnvRep P w D ι env a) (ho : o.op = .index t x i) (ht : P.underlying t = some (.array len e)) (hag : cAgg P e = some ag) (hn : cSize P e = some n) (hx : cO P x = some x') (hi : cO P i = some i')
    (hv : vidxA ag len n (evO env x') (evO env i') = some v) : Yld P a o w D ι v := by
  have hr := rep_O E hx
  have hri := rep_O E hi
  unfold vidxA at hv
  split at hv
  · rename_i cs k q hb hb'
    split at hv
    · rename_i hq
      rw [hb] at hr; rw [hb'] at hri
      obtain ⟨vs, f, h, n1, fl, f1, r1⟩ := rep_agg hr
      have go : ∀ u, (Go.part e vs (q.toNat * n)).run P w = .ok u w → (execOp a.eval o).run P w = .ok (.value u) w := fun u hu => by
        simp only [execOp, ho, h, rep_int hri, Instr.index, asIntOf, Sem.run_bind, Sem.run_pure, run_underlying ht, Result.andThen_ok, hq, and_self, if_true, run_sizeOf hn, hu]
      unfold part at hv
      cases ag with
      | true =>
        simp only [if_true] at hv
        split at hv
        · rename_i hl
          simp at hv; subst hv
          simp only [List.length_drop] at hl
          by_cases hn0 : n = 0
          · subst hn0
            refine ⟨_, go _ (run_partA hag hn), .agg _ _ (fun _ => undef) (by simp) (fun a ha => by simp at ha) (fun j hj => by simp at hj) (fun j a ha => by simp at ha)⟩
          refine ⟨_, go _ (run_partA hag hn), .agg _ _ (fun j => f (q.toNat * n + j)) (by simp [n1]; omega) (fun a ha => fl a (List.mem_of_mem_drop (List.mem_of_mem_take ha))) (fun j hj => ?_) (fun j a ha => ?_)⟩
          · simp at hj
            rw [Array.getElem?_extract, if_pos (by omega)]; exact f1 _ (by omega)
          · rw [List.getElem?_take] at ha
            split at ha
            · exact r1 _ _ (by simpa using ha)
            · simp at ha
        · simp at hv
      | false =>
        simp only [Bool.false_eq_true, if_false] at hv
        have hv' : cs[q.toNat * n]? = some v := by simpa [List.head?_drop] using hv
        have hlt := (List.getElem?_eq_some_iff.1 hv').1
        exact ⟨_, go _ (run_part1 hag (f1 _ hlt)), r1 _ _ hv'⟩
    · simp at hv
  · simp at hv

theorem y_extract {x : Operand} {x' : O} {i : Nat} (E : EnvRep P w D ι env a) (ho : o.op = .extract x i) (hx : cO P x = some x') (hv : vextract i (evO env x') = some v) : Yld P a o w D ι v := by
  have hr := rep_O E hx
  unfold vextract at hv
  split at hv
  · rename_i vs hb
    rw [hb] at hr
    obtain ⟨us, f, h, h1, h2, h3⟩ := rep_tup hr
    have hlt := (List.getElem?_eq_some_iff.1 hv).1
    exact ⟨_, by simp only [execOp, ho, h, Instr.extract, h2 _ hlt]; rfl, h3 _ _ hv⟩
  · simp at hv

theorem y_len {x : Operand} {x' : O} {t : TypeId} {e : TypeId} {n : Nat} (E : EnvRep P w D ι env a) (ho : o.op = .call { callee := .builtin .len, args := #[x], argTypes := #[t] }) (ht : P.underlying t = some (.slice e)) (hx : cO P x = some x') (hv : vlen (evO env x') = some n) : Yld P a o w D ι (.int .i64 n) := by
  have hr := rep_O E hx
  have go : ∀ A c, a.eval x = .slice A n c → (execOp a.eval o).run P w = .ok (.value (.int .i64 n)) w := fun A c h => by
    simp only [execOp, ho, resolve, Sem.run_bind, Sem.run_pure, Result.andThen_ok, invoke, builtin, Array.map, h]
    simp [Builtin.len_, run_underlying ht, goInt, h]
  refine ⟨.int .i64 n, ?_, .imm _ _ (.int _ _)⟩
  unfold vlen at hv
  split at hv <;> simp at hv <;> subst hv <;> rename_i hb <;> rw [hb] at hr
  · exact go _ _ (rep_nils hr)
  · obtain ⟨A, c, h, _⟩ := rep_sl hr; exact go _ _ h
  · obtain ⟨oo, cap, B, h, _⟩ := rep_own hr; exact go _ _ h

theorem y_lenS {x : Operand} {x' : O} {t : TypeId} (E : EnvRep P w D ι env a) (ho : o.op = .call { callee := .builtin .len, args := #[x], argTypes := #[t] }) (ht : P.underlying t = some .string) (hx : cO P x = some x') (hv : vlenS (evO env x') = some v) : Yld P a o w D ι v := by
  have hr := rep_O E hx
  unfold vlenS at hv
  split at hv
  · rename_i s hb
    simp at hv; subst hv
    rw [hb] at hr
    have h := rep_str hr
    refine ⟨_, ?_, .imm _ _ (.int _ _)⟩
    simp only [execOp, ho, resolve, Sem.run_bind, Sem.run_pure, Result.andThen_ok, invoke, builtin, Array.map, h]
    simp [Builtin.len_, run_underlying ht, goInt, h]
  · simp at hv

theorem run_bounds {isS : Bool} {len cap h l : Nat} {lo hi : Option Operand} {lo' hi' : Option O} (E : EnvRep P w D ι env a) (hlo : cOpt P lo = some lo') (hhi : cOpt P hi = some hi') (hh : hiOf len (hi'.map (evO env)) = some h) (hl : loOf h (lo'.map (evO env)) = some l) (hc : len ≤ cap) :
    (Instr.sliceBounds isS len cap (lo.map a.eval) (hi.map a.eval) none).run P w = .ok (l, h, cap) w ∧ l ≤ h ∧ h ≤ len := by
  have bound : ∀ (x : Operand) (y : O) (k : IntKind) (n : Int) (m : Nat) (c : BoundsCode), cO P x = some y → evO env y = .int k n → 0 ≤ n → n ≤ m → (Instr.sliceBound (a.eval x) m c).run P w = .ok n.toNat w := fun x y k n m c hx hy h0 h1 => by
    have hr := rep_O E hx
    rw [hy] at hr
    simp only [Instr.sliceBound, rep_int hr, asIntOf, Sem.run_bind, Sem.run_pure, Result.andThen_ok, h0, h1, and_self, if_true]
  have H : h ≤ len ∧ ((hi = none ∧ h = len) ∨ ∃ x, hi = some x ∧ ∀ c, (Instr.sliceBound (a.eval x) cap c).run P w = .ok h w) := by
    cases hi with
    | none =>
      simp [cOpt] at hhi; subst hhi
      simp [hiOf] at hh; subst hh
      exact ⟨Nat.le_refl _, .inl ⟨rfl, rfl⟩⟩
    | some x =>
      simp only [cOpt, Option.map_eq_some_iff] at hhi
      obtain ⟨y, hy, rfl⟩ := hhi
      simp only [Option.map_some, hiOf] at hh
      split at hh
      · rename_i e; cases e
      · rename_i k n e
        injection e with e
        split at hh
        · rename_i hn
          simp at hh; subst hh
          exact ⟨by omega, .inr ⟨x, rfl, fun c => bound x y k n _ _ hy e hn.1 (by omega)⟩⟩
        · simp at hh
      · simp at hh
  have L : l ≤ h ∧ ((lo = none ∧ l = 0) ∨ ∃ x, lo = some x ∧ ∀ c, (Instr.sliceBound (a.eval x) h c).run P w = .ok l w) := by
    cases lo with
    | none =>
      simp [cOpt] at hlo; subst hlo
      simp [loOf] at hl; subst hl
      exact ⟨Nat.zero_le _, .inl ⟨rfl, rfl⟩⟩
    | some x =>
      simp only [cOpt, Option.map_eq_some_iff] at hlo
      obtain ⟨y, hy, rfl⟩ := hlo
      simp only [Option.map_some, loOf] at hl
      split at hl
      · rename_i e; cases e
      · rename_i k n e
        injection e with e
        split at hl
        · rename_i hn
          simp at hl; subst hl
          exact ⟨by omega, .inr ⟨x, rfl, fun c => bound x y k n h _ hy e hn.1 hn.2⟩⟩
        · simp at hl
      · simp at hl
  refine ⟨?_, L.1, H.1⟩
  unfold Instr.sliceBounds
  rcases H.2 with ⟨rfl, rfl⟩ | ⟨x, rfl, hx⟩ <;> rcases L.2 with ⟨rfl, rfl⟩ | ⟨y, rfl, hy⟩ <;>
    simp only [Option.map_none, Option.map_some, Sem.run_bind, Sem.run_pure, Result.andThen_ok, *]

theorem y_slice {x : Operand} {x' : O} {lo hi : Option Operand} {lo' hi' : Option O} {t e : TypeId} {m : Nat} (S : Sim P hs D ι g w) (E : EnvRep P w D ι env a) (ho : o.op = .slice t x lo hi none) (ht : P.underlying t = some (.slice e)) (hm : cSize P e = some m) (hx : cO P x = some x') (hlo : cOpt P lo = some lo') (hhi : cOpt P hi = some hi')
    (hv : vslice g m (evO env x') (lo'.map (evO env)) (hi'.map (evO env)) = some v) : Yld P a o w D ι v := by
  have hr := rep_O E hx
  have go : ∀ A len cap l h, a.eval x = .slice A len cap → (Instr.sliceBounds true len cap (lo.map a.eval) (hi.map a.eval) none).run P w = .ok (l, h, cap) w → (execOp a.eval o).run P w = .ok (.value (.slice (if cap = l then A else A.map (·.add (l * m))) (h - l) (cap - l))) w := fun A len cap l h h1 h2 => by
    simp only [execOp, ho, h1, Instr.sliceAt, Instr.slice, Sem.run_bind, Sem.run_pure, run_underlying ht, Result.andThen_ok, Option.map_none, h2, run_sizeOf hm]
  unfold vslice at hv
  split at hv
  · rename_i hb
    rw [hb] at hr
    simp only [Option.bind_eq_some_iff, Option.map_eq_some_iff] at hv
    obtain ⟨h, hh, l, hl, rfl⟩ := hv
    obtain ⟨q, q1, q2⟩ := run_bounds (w := w) (isS := true) (cap := 0) E hlo hhi hh hl (Nat.le_refl _)
    have h0 : h = 0 := by omega
    have l0 : l = 0 := by omega
    subst h0; subst l0
    refine ⟨_, go _ _ _ _ _ (rep_nils hr) q, ?_⟩
    simp; exact .imm _ _ .nils
  · rename_i rows hb
    rw [hb] at hr
    simp only [Option.bind_eq_some_iff, Option.map_eq_some_iff] at hv
    obtain ⟨h, hh, l, hl, hv⟩ := hv
    split at hv
    · rename_i hall
      simp at hv; subst hv
      obtain ⟨A, c, he, c1, c2, h3⟩ := rep_sl hr
      obtain ⟨q, q1, q2⟩ := run_bounds (w := w) (isS := true) (cap := c) E hlo hhi hh hl c1
      refine ⟨_, go _ _ _ _ _ he q, .imm _ _ ?_⟩
      have hlen : ((rows.drop l).take (h - l)).length = h - l := by simp; omega
      by_cases hz : h - l = 0
      · have : (rows.drop l).take (h - l) = [] := by rw [hz]; simp
        rw [this, hz]
        exact .sl0 _ _ (by omega)
      · rcases h3 with h3 | ⟨b, oo, sz, vs, rfl, hD, hl', fl, hc, hi⟩
        · subst h3; simp at q2; omega
        rw [if_neg (by omega)]
        simp only [Option.map_some, add_mk]
        have hm' : sz = m := by
          have hlt : l < rows.length := by omega
          have := hall rows[l] (List.getElem_mem hlt)
          rw [← this, hl' _ (List.getElem_mem hlt)]
        subst hm'
        refine .sl _ b _ _ _ sz (fun i j => vs (l + i) j) hlen (by omega) (by omega) hD (fun cs hcs => hl' cs (List.mem_of_mem_drop (List.mem_of_mem_take hcs))) (fun cs hcs => fl cs (List.mem_of_mem_drop (List.mem_of_mem_take hcs))) (fun i j hi hj => ?_) (fun i j cs a hcs ha => ?_)
        · rw [← hc (l + i) j (by omega) hj, Nat.add_mul]
          congr 2; omega
        · rw [List.getElem?_take] at hcs
          split at hcs
          · exact hi _ _ _ _ (by simpa using hcs) ha
          · simp at hcs
    · simp at hv
  · rename_i id' off len hb
    rw [hb] at hr
    simp only [Option.bind_eq_some_iff, Option.map_eq_some_iff] at hv
    obtain ⟨r, hgr, h, hh, l, hl, hv⟩ := hv
    split at hv
    · rename_i hrs
      simp at hv; subst hv
      obtain ⟨oo, cap, B, he, hB, h1, h2, h3, h4⟩ := rep_own hr
      obtain ⟨B', hB', R, _, _⟩ := S.row _ _ hgr
      rw [hB] at hB'; injection hB' with hB'; subst hB'
      have hsz : B.sz = m := R.sz.trans hrs
      obtain ⟨q, q1, q2⟩ := run_bounds (w := w) (isS := true) (cap := cap) E hlo hhi hh hl h1
      refine ⟨_, go _ _ _ _ _ he q, ?_⟩
      have e1 : (off + l + (cap - l)) * B.sz ≤ B.C := by rw [show off + l + (cap - l) = off + cap by omega]; exact h3
      by_cases hcl : cap = l
      · rw [if_pos hcl]
        exact .own _ _ _ _ _ B hB (by omega) (.inl (by omega)) e1 (by omega)
      · rw [if_neg hcl]
        simp only [Option.map_some, add_mk]
        have h2' : oo = off * B.sz := by rcases h2 with h2 | h2 <;> omega
        exact .own _ _ _ _ _ B hB (by omega) (.inr (by rw [h2', hsz, Nat.add_mul])) e1 (by omega)
    · simp at hv
  · simp at hv

theorem y_sliceS {x : Operand} {x' : O} {lo hi : Option Operand} {lo' hi' : Option O} {t : TypeId} (E : EnvRep P w D ι env a) (ho : o.op = .slice t x lo hi none) (ht : P.underlying t = some .string) (hx : cO P x = some x') (hlo : cOpt P lo = some lo') (hhi : cOpt P hi = some hi')
    (hv : vsliceS (evO env x') (lo'.map (evO env)) (hi'.map (evO env)) = some v) : Yld P a o w D ι v := by
  have hr := rep_O E hx
  unfold vsliceS at hv
  split at hv
  · rename_i s hb
    rw [hb] at hr
    simp only [Option.bind_eq_some_iff, Option.map_eq_some_iff] at hv
    obtain ⟨h, hh, l, hl, rfl⟩ := hv
    obtain ⟨q, _, _⟩ := run_bounds (w := w) (isS := false) E hlo hhi hh hl (Nat.le_refl _)
    refine ⟨_, ?_, .imm _ _ (.str _)⟩
    simp only [execOp, ho, rep_str hr, Instr.sliceAt, Instr.slice, Sem.run_bind, Sem.run_pure, run_underlying ht, Result.andThen_ok, Option.map_none, Option.isSome_none, Bool.false_eq_true, if_false, q]
  · simp at hv

theorem rep_Os {xs : List Operand} {ys : List O} (E : EnvRep P w D ι env a) (h : xs.mapM (cO P) = some ys) : (xs.map a.eval).length = ys.length ∧ ∀ j y, ys[j]? = some y → Rep P w D ι (evO env y) ((xs.map a.eval).getD j undef) := by
  induction xs generalizing ys with
  | nil => simp at h; subst h; simp
  | cons x r ih =>
    simp only [List.mapM_cons, Option.bind_eq_bind, Option.bind_eq_some_iff] at h
    obtain ⟨c, hc, cs', hcs, h⟩ := h
    simp at h; subst h
    obtain ⟨h1, h2⟩ := ih hcs
    refine ⟨by simpa using h1, fun j d hd => ?_⟩
    cases j with
    | zero => simp at hd ⊢; subst hd; exact rep_O E hc
    | succ j => simp at hd ⊢; simpa using h2 j d hd

theorem y_mkfn {f : Nat} {first caps : Array Operand} {caps' : List O} (E : EnvRep P w D ι env a) (ho : o.op = .makeFunc (.func f) first caps) (hf : first = #[]) (hc : callable P f = true) (hx : caps.toList.mapM (cO P) = some caps') : Yld P a o w D ι (.fn f (caps'.map (evO env))) := by
  subst hf
  obtain ⟨h1, h2⟩ := rep_Os E hx
  refine ⟨.func (.func f) #[] (caps.map a.eval), by simp only [execOp, ho, Instr.makeFunc, Sem.run_bind, Sem.run_pure, Result.andThen_ok]; simp, .fn _ _ _ (fun j => (caps.toList.map a.eval).getD j undef) hc (by simpa using h1) (fun j hj => ?_) (fun j x hxj => ?_)⟩
  · simp at hj h1
    have : j < caps.size := by omega
    simp [this]
  · simp only [List.getElem?_map, Option.map_eq_some_iff] at hxj
    obtain ⟨y, hy, rfl⟩ := hxj
    exact h2 j y hy

end
end Go.Proofs.YtpbniieiinhliaaGreat.V

namespace Go.Proofs.YtpbniieiinhliaaGreat.V
open Go.RowKit

variable {P : Program} {w w' : World} {D D' : Nat → Prop} {ι ι' : Names}

/-- The operation makes a new row and yields a value that names it. -/
def Mk (P : Program) (a : Act) (o : Oper) (w : World) (D : Nat → Prop) (ι : Names) (id : Id) (v : AV) (r : Row) : Prop :=
  ∃ u cells T, (execOp a.eval o).run P w = .ok (.value u) (w.alloc (.cells cells T)) ∧ r.w = true ∧ r.rows.length * r.sz ≤ cells.size ∧ (∀ cs ∈ r.rows, cs.length = r.sz) ∧ (∀ cs ∈ r.rows, ∀ a ∈ cs, a.cell = true) ∧
    (∀ i j cs a, r.rows[i]? = some cs → cs[j]? = some a → ∃ x, cells[i * r.sz + j]? = some x ∧ Rep P w D ι a x) ∧ ∀ ι' : Names, ι' id = some ⟨w.heap.size, r.sz, cells.size⟩ → Rep P w D ι' v u

section
variable {g : Rows} {hs : Nat} {env : Env} {a : Act} {o : Oper} {id : Id} {v : AV}

theorem kL {vs : List Value} {cs : List K} (h : vs.mapM kOf = some cs) : RepL P w D ι (cs.map K.av) vs.toArray := by
  obtain ⟨h1, h2⟩ := mapM_kOf h
  refine ⟨by simp [h1], fun j a ha => ?_⟩
  simp only [List.getElem?_map, Option.map_eq_some_iff] at ha
  obtain ⟨c, hc, rfl⟩ := ha
  exact ⟨c.val, by simpa using h2 j c hc, rep_k c⟩

theorem zero_info {t : TypeId} {z : List K} (h : cZero P t = some z) : ∃ i v, P.info? t = some i ∧ i.zero = some v ∧ v.cells.size = i.size ∧ v.cells.toList.mapM kOf = some z ∧ z.length = i.size := by
  unfold cZero at h
  split at h
  · rename_i i hi
    split at h
    · rename_i v hv
      split at h
      · rename_i hs
        exact ⟨i, v, hi, hv, hs, h, by rw [(mapM_kOf h).1]; simpa using hs⟩
      · simp at h
    · simp at h
  · simp at h

theorem one_row {cs : List AV} {cells : Array Value} (h : RepL P w D ι cs cells) : ∀ i j c a, [cs][i]? = some c → c[j]? = some a → ∃ x, cells[i * cs.length + j]? = some x ∧ Rep P w D ι a x := by
  intro i j c a hi hj
  cases i with
  | zero => simp at hi; subst hi; simpa using h.2 j a hj
  | succ i => simp at hi

theorem m_new {t : TypeId} {z : List K} (ho : o.op = .alloc t) (hz : cZero P t = some z) : Mk P a o w D ι id (.ptr id 0 0) ⟨true, z.length, [z.map K.av]⟩ := by
  obtain ⟨i, v, hi, hv, hs, hm, hl⟩ := zero_info hz
  have hk := kL (P := P) (w := w) (D := D) (ι := ι) hm
  refine ⟨.pointer (some ⟨w.heap.size, 0, none⟩), v.cells, t, ?_, rfl, ?_, ?_, ?_, ?_, ?_⟩
  · simp only [execOp, ho, Instr.alloc, zeroValue, typeInfo, Sem.run_bind]
    simp [hi, hv, newVar, newRow]
  · simp [hl, hs]
  · intro cs hcs; simp at hcs; subst hcs; simp
  · intro cs hcs x hx; simp at hcs; subst hcs
    obtain ⟨c, _, rfl⟩ := List.mem_map.1 hx; exact c.av_cell
  · have := one_row hk; simpa using this
  · intro ι' hι
    have := Rep.ptr (P := P) (w := w) (D := D) (ι := ι') id 0 0 _ hι
    simpa using this

theorem repL_cells {x : AV} {u : Value} (h : Rep P w D ι x u) (hc : x.cells.all AV.cell = true) : RepL P w D ι x.cells u.cells := by
  obtain ⟨h1, f, h2, h3⟩ := h.cells hc
  exact ⟨h1, fun j a ha => ⟨f j, h2 j (List.getElem?_eq_some_iff.1 ha).1, h3 j a ha⟩⟩

theorem m_box {t : TypeId} {x : Operand} {x' : O} {cs : List AV} (E : EnvRep P w D ι env a) (ho : o.op = .box t x) (hx : cO P x = some x') (hb : boxOf (evO env x') = some cs) : Mk P a o w D ι id (.ptr id 0 0) ⟨true, cs.length, [cs]⟩ := by
  have hr := rep_O E hx
  unfold boxOf at hb
  split at hb
  · rename_i hall
    simp at hb; subst hb
    have hk := repL_cells hr hall
    refine ⟨.pointer (some ⟨w.heap.size, 0, none⟩), (a.eval x).cells, t, ?_, rfl, ?_, ?_, ?_, ?_, ?_⟩
    · simp only [execOp, ho, Instr.box, Sem.run_bind]
      simp [newVar, newRow]
    · simp [hk.1]
    · intro cs hcs; simp at hcs; subst hcs; rfl
    · intro cs hcs y hy; simp at hcs; subst hcs
      exact List.all_eq_true.1 hall y hy
    · exact one_row hk
    · intro ι' hι
      have := Rep.ptr (P := P) (w := w) (D := D) (ι := ι') id 0 0 _ hι
      simpa using this
  · simp at hb

theorem foldl_set : ∀ (vs : List Value) (n off : Nat) (cells : Array Value), off + n + vs.length ≤ cells.size → ((vs.zipIdx n).foldl (fun cs (x : Value × Nat) => cs.setIfInBounds (off + x.2) x.1) cells).size = cells.size ∧
    ∀ k, ((vs.zipIdx n).foldl (fun cs (x : Value × Nat) => cs.setIfInBounds (off + x.2) x.1) cells)[k]? = if off + n ≤ k ∧ k < off + n + vs.length then vs[k - (off + n)]? else cells[k]?
  | [], n, off, cells, _ => ⟨rfl, fun k => by simp; intro h1 h2; omega⟩
  | v :: r, n, off, cells, h => by
    simp only [List.length_cons] at h
    obtain ⟨h1, h2⟩ := foldl_set r (n + 1) off (cells.setIfInBounds (off + n) v) (by simp; omega)
    simp only [List.zipIdx_cons, List.foldl_cons]
    refine ⟨by rw [h1]; simp, fun k => ?_⟩
    rw [h2 k]
    simp only [List.length_cons]
    by_cases hk : k = off + n
    · subst hk
      rw [if_neg (by omega), if_pos (by omega)]
      simp [show off + n < cells.size by omega]
    · by_cases hk2 : off + n ≤ k ∧ k < off + n + (r.length + 1)
      · rw [if_pos (by omega), if_pos hk2]
        have : k - (off + n) = (k - (off + (n + 1))) + 1 := by omega
        rw [this, List.getElem?_cons_succ]
      · rw [if_neg (by omega), if_neg hk2, Array.getElem?_setIfInBounds_ne (by omega)]

theorem fill_rel (place : Nat → Option (Nat × Nat)) : ∀ (ps : List (Nat × Value)) (qs : List (Nat × Nat × AV)) (cells : Array Value) (cs res : List AV), RepL P w D ι cs cells → (∀ a ∈ cs, a.cell = true) → ps.length = qs.length →
    (∀ (k : Nat) i u o' n x, ps[k]? = some (i, u) → qs[k]? = some (o', n, x) → place i = some (o', n) ∧ Rep P w D ι x u) → fillV cs qs = some res → ∃ cells', Instr.fill place cells ps = some cells' ∧ RepL P w D ι res cells' ∧ (∀ a ∈ res, a.cell = true) ∧ res.length = cs.length := by
  intro ps
  induction ps with
  | nil =>
    intro qs cells cs res hR hf hl _ hv
    cases qs with
    | nil => simp [fillV] at hv; subst hv; exact ⟨cells, rfl, hR, hf, rfl⟩
    | cons q r => simp at hl
  | cons p ps ih =>
    intro qs cells cs res hR hf hl hp hv
    cases qs with
    | nil => simp at hl
    | cons q qs =>
      obtain ⟨i, u⟩ := p
      obtain ⟨oo, n, x⟩ := q
      obtain ⟨hpl, hr⟩ := hp 0 i u oo n x rfl rfl
      unfold fillV at hv
      split at hv
      · rename_i hc
        obtain ⟨c1, c2, c3⟩ := hc
        have hk := repL_cells hr c3
        have hus : u.cells.size = n := by rw [hk.1, c1]
        have hcs : cells.size = cs.length := hR.1
        unfold Instr.fill
        simp only [hpl]
        rw [if_neg (by rw [hus, hcs]; simp; omega)]
        obtain ⟨s1, s2⟩ := foldl_set u.cells.toList 0 oo cells (by simp; omega)
        have e0 : (u.cells.zipIdx.foldl (fun cs (x : Value × Nat) => cs.setIfInBounds (oo + x.2) x.1) cells) = (u.cells.toList.zipIdx 0).foldl (fun cs (x : Value × Nat) => cs.setIfInBounds (oo + x.2) x.1) cells := by
          rw [← Array.foldl_toList]; simp
        have hgo := ih qs (u.cells.zipIdx.foldl (fun cs (x : Value × Nat) => cs.setIfInBounds (oo + x.2) x.1) cells) (cs.take oo ++ x.cells ++ cs.drop (oo + n)) res ?_ ?_ (by simpa using hl) (fun k i u o' n x h1 h2 => hp (k + 1) i u o' n x (by simpa using h1) (by simpa using h2)) hv
        · obtain ⟨cells', h1, h2, h3, h4⟩ := hgo
          refine ⟨cells', h1, h2, h3, ?_⟩
          rw [h4]; simp; omega
        · rw [e0]
          refine ⟨by rw [s1, hcs]; simp; omega, fun j a ha => ?_⟩
          rw [s2 j]
          simp only [Nat.add_zero, Array.length_toList]
          by_cases hj : oo ≤ j ∧ j < oo + u.cells.size
          · rw [if_pos hj]
            rw [List.append_assoc, List.getElem?_append_right (by simp; omega), List.getElem?_append_left (by simp; omega)] at ha
            simp only [List.length_take] at ha
            rw [show min oo cs.length = oo by omega] at ha
            simpa using hk.2 _ _ ha
          · rw [if_neg hj]
            by_cases hj2 : j < oo
            · rw [List.append_assoc, List.getElem?_append_left (by simp; omega), List.getElem?_take, if_pos hj2] at ha
              exact hR.2 _ _ ha
            · rw [List.getElem?_append_right (by simp; omega)] at ha
              simp only [List.length_append, List.length_take, List.getElem?_drop] at ha
              rw [show oo + n + (j - (min oo cs.length + x.cells.length)) = j by omega] at ha
              exact hR.2 _ _ ha
        · intro b hb
          rcases List.mem_append.1 hb with hb | hb
          · rcases List.mem_append.1 hb with hb | hb
            · exact hf b (List.mem_of_mem_take hb)
            · exact List.all_eq_true.1 c3 b hb
          · exact hf b (List.mem_of_mem_drop hb)
      · simp at hv

theorem fields_places {fs : List Field} (h : ∀ f ∈ fs, (P.info? f.type).isSome = true) : ∃ places, fs.mapM (fun f => (P.info? f.type).map fun i => (f.offset, i.size)) = some places ∧ ∀ (i : Nat) (f : Field) (n : Nat), fs[i]? = some f → cSize P f.type = some n → places[i]? = some (f.offset, n) := by
  induction fs with
  | nil => exact ⟨[], rfl, fun i f n h => by simp at h⟩
  | cons f r ih =>
    obtain ⟨q, h1, h2⟩ := ih (fun x hx => h x (List.mem_cons_of_mem _ hx))
    obtain ⟨i, hi⟩ := Option.isSome_iff_exists.1 (h f (by simp))
    refine ⟨(f.offset, i.size) :: q, by simp [hi, h1], fun k x n hk hn => ?_⟩
    cases k with
    | zero => simp at hk; subst hk; simp [cSize, hi] at hn; subst hn; rfl
    | succ k => simp at hk ⊢; exact h2 k x n hk hn

theorem cParts_rel {ps : List (Nat × Operand)} {l : List (Nat × O)} (E : EnvRep P w D ι env a) (h : ps.mapM (fun (x : Nat × Operand) => (cO P x.2).map (x.1, ·)) = some l) : l.length = ps.length ∧ ∀ (k i : Nat) (y : O), l[k]? = some (i, y) → ∃ x, ps[k]? = some (i, x) ∧ cO P x = some y := by
  induction ps generalizing l with
  | nil => simp at h; subst h; simp
  | cons p r ih =>
    simp only [List.mapM_cons, Option.bind_eq_bind, Option.bind_eq_some_iff] at h
    obtain ⟨c, hc, cs', hcs, h⟩ := h
    simp at h; subst h
    obtain ⟨h1, h2⟩ := ih hcs
    simp only [Option.map_eq_some_iff] at hc
    obtain ⟨y, hy, rfl⟩ := hc
    refine ⟨by simp [h1], fun k i z hk => ?_⟩
    cases k with
    | zero => simp at hk; obtain ⟨rfl, rfl⟩ := hk; exact ⟨p.2, rfl, hy⟩
    | succ k => simp at hk ⊢; exact h2 k i z hk

theorem cBuild_rel {fs : Array Field} {l : List (Nat × O)} {q : List (Nat × Nat × O)} (h : cBuild P fs l = some q) : q.length = l.length ∧ ∀ (k oo n : Nat) (y : O), q[k]? = some (oo, n, y) → ∃ (i : Nat) (f : Field), l[k]? = some (i, y) ∧ fs[i]? = some f ∧ f.offset = oo ∧ cSize P f.type = some n := by
  induction l generalizing q with
  | nil => simp [cBuild] at h; subst h; simp
  | cons p r ih =>
    obtain ⟨i, x⟩ := p
    unfold cBuild at h
    split at h
    · rename_i f hf
      split at h
      · rename_i n hn
        simp only [Option.map_eq_some_iff] at h
        obtain ⟨q', hq', rfl⟩ := h
        obtain ⟨h1, h2⟩ := ih hq'
        refine ⟨by simp [h1], fun k oo m y hk => ?_⟩
        cases k with
        | zero => simp at hk; obtain ⟨rfl, rfl, rfl⟩ := hk; exact ⟨i, f, rfl, hf, rfl, hn⟩
        | succ k => simp only [List.getElem?_cons_succ] at hk ⊢; exact h2 k oo m y hk
      · simp at h
    · simp at h

theorem RepL.agg {xs : List AV} {vs : Array Value} (h : RepL P w D ι xs vs) (hf : ∀ a ∈ xs, a.cell = true) : Rep P w D ι (.agg xs) (.agg vs) :=
  .agg xs vs (fun j => vs.getD j undef) h.1 hf (fun j hj => by
    have : j < vs.size := by rw [h.1]; exact hj
    simp [this]) (fun j a ha => by
    obtain ⟨u, h1, h2⟩ := h.2 j a ha
    simpa [Array.getD_eq_getD_getElem?, h1] using h2)

theorem y_build {t : TypeId} {ps : Array (Nat × Operand)} {fs : Array Field} {z : List K} {l : List (Nat × O)} {q : List (Nat × Nat × O)} {cs : List AV} (E : EnvRep P w D ι env a) (ho : o.op = .build t ps) (ht : P.underlying t = some (.struct fs)) (hz : cZero P t = some z) (hl : cParts P ps = some l)
    (hfs : ∀ f ∈ fs.toList, (P.info? f.type).isSome = true) (hq : cBuild P fs l = some q) (hv : fillV (z.map K.av) (q.map fun (o, n, x) => (o, n, evO env x)) = some cs) : Yld P a o w D ι (.agg cs) := by
  obtain ⟨it, zv, hi, hzv, hs, hm, hzl⟩ := zero_info hz
  obtain ⟨places, hpl, hpl2⟩ := fields_places hfs
  have hk := kL (P := P) (w := w) (D := D) (ι := ι) hm
  obtain ⟨n1, r1⟩ := cParts_rel E hl
  obtain ⟨n2, r2⟩ := cBuild_rel hq
  obtain ⟨cells', h1, h2, h3, _⟩ := fill_rel (P := P) (w := w) (D := D) (ι := ι) (places.toArray[·]?) (ps.toList.map fun (i, x) => (i, a.eval x)) (q.map fun (o, n, x) => (o, n, evO env x)) zv.cells _ cs (by simpa using hk)
    (fun b hb => by obtain ⟨c, _, rfl⟩ := List.mem_map.1 hb; exact c.av_cell) (by simp [n2, n1]) (fun k i u o' n x hk1 hk2 => by
      simp only [List.getElem?_map, Option.map_eq_some_iff] at hk1 hk2
      obtain ⟨⟨i', x'⟩, hp, e1⟩ := hk1
      obtain ⟨⟨o2, n', y⟩, hq', e2⟩ := hk2
      simp only [Prod.mk.injEq] at e1 e2
      obtain ⟨rfl, rfl⟩ := e1
      obtain ⟨rfl, rfl, rfl⟩ := e2
      obtain ⟨i2, f, hlk, hf, rfl, hn⟩ := r2 _ _ _ _ hq'
      obtain ⟨x2, hx2, hc⟩ := r1 _ _ _ hlk
      rw [hp] at hx2
      simp only [Option.some.injEq, Prod.mk.injEq] at hx2
      obtain ⟨rfl, rfl⟩ := hx2
      exact ⟨by simpa using hpl2 _ _ _ (by simpa using hf) hn, rep_O E hc⟩) hv
  refine ⟨.agg cells', ?_, h2.agg h3⟩
  have hb : P.built t ((ps.map fun (i, x) => (i, a.eval x)).toList) = some cells' := by
    unfold Program.built
    simp only [hi, ht, hzv, hpl]
    simpa using h1
  simp only [execOp, ho, Sem.run_bind, run_build w t _ _ hb, Result.andThen_ok, Sem.run_pure]

theorem y_buildA {t e : TypeId} {len n : Nat} {ps : Array (Nat × Operand)} {z : List K} {l : List (Nat × O)} {cs : List AV} (E : EnvRep P w D ι env a) (ho : o.op = .build t ps) (ht : P.underlying t = some (.array len e)) (hz : cZero P t = some z) (hl : cParts P ps = some l) (hn : cSize P e = some n)
    (hv : fillV (z.map K.av) ((l.map fun (x : Nat × O) => (x.1 * n, n, x.2)).map fun (o, n, x) => (o, n, evO env x)) = some cs) : Yld P a o w D ι (.agg cs) := by
  obtain ⟨it, zv, hi, hzv, hs, hm, hzl⟩ := zero_info hz
  have hk := kL (P := P) (w := w) (D := D) (ι := ι) hm
  obtain ⟨n1, r1⟩ := cParts_rel E hl
  obtain ⟨ie, hie, hsz⟩ : ∃ ie, P.info? e = some ie ∧ ie.size = n := by simpa [cSize] using hn
  obtain ⟨cells', h1, h2, h3, _⟩ := fill_rel (P := P) (w := w) (D := D) (ι := ι) (fun i => some (i * ie.size, ie.size)) (ps.toList.map fun (i, x) => (i, a.eval x)) ((l.map fun (x : Nat × O) => (x.1 * n, n, x.2)).map fun (o, n, x) => (o, n, evO env x)) zv.cells _ cs (by simpa using hk)
    (fun b hb => by obtain ⟨c, _, rfl⟩ := List.mem_map.1 hb; exact c.av_cell) (by simp [n1]) (fun k i u o' n' x hk1 hk2 => by
      simp only [List.getElem?_map, Option.map_eq_some_iff] at hk1 hk2
      obtain ⟨⟨i', x'⟩, hp, e1⟩ := hk1
      obtain ⟨⟨o2, n2, y⟩, ⟨⟨i2, y2⟩, hlk, e3⟩, e2⟩ := hk2
      simp only [Prod.mk.injEq] at e1 e2 e3
      obtain ⟨rfl, rfl⟩ := e1
      obtain ⟨rfl, rfl, rfl⟩ := e2
      obtain ⟨rfl, rfl, rfl⟩ := e3
      obtain ⟨x2, hx2, hc⟩ := r1 _ _ _ hlk
      rw [hp] at hx2
      simp only [Option.some.injEq, Prod.mk.injEq] at hx2
      obtain ⟨rfl, rfl⟩ := hx2
      exact ⟨by rw [hsz], rep_O E hc⟩) hv
  refine ⟨.agg cells', ?_, h2.agg h3⟩
  have hb : P.built t ((ps.map fun (i, x) => (i, a.eval x)).toList) = some cells' := by
    unfold Program.built
    simp only [hi, ht, hzv, hie]
    simpa using h1
  simp only [execOp, ho, Sem.run_bind, run_build w t _ _ hb, Result.andThen_ok, Sem.run_pure]

/-- Parts of a slice literal, laid one behind the other. -/
theorem fillV_rows : ∀ (vs : List AV) (sz i : Nat) (rs : List (List AV)) (cs : List AV), 0 < sz → cs.length = (i + vs.length) * sz → rowsOf sz vs = some rs →
    fillV cs ((vs.zipIdx i).map fun (v, j) => (j * sz, sz, v)) = some (cs.take (i * sz) ++ rs.flatten) ∧ rs.length = vs.length ∧ (∀ c ∈ rs, c.length = sz) ∧ ∀ c ∈ rs, ∀ x ∈ c, x.cell = true
  | [], sz, i, rs, cs, _, hl, h => by
    simp [rowsOf] at h; subst h
    simp at hl
    simp [fillV, List.take_of_length_le (show cs.length ≤ i * sz by omega)]
  | v :: r, sz, i, rs, cs, hsz, hl, h => by
    simp only [rowsOf, Option.bind_eq_some_iff, Option.map_eq_some_iff] at h
    obtain ⟨c, hc, rs', hrs, rfl⟩ := h
    unfold rowOf at hc
    split at hc
    · rename_i hcc
      simp at hc; subst hc
      obtain ⟨hc1, hc2⟩ := hcc
      simp only [List.length_cons] at hl
      have hmul : (i + (r.length + 1)) * sz = i * sz + sz + r.length * sz := by rw [Nat.add_mul, Nat.add_mul]; omega
      have ih := fillV_rows r sz (i + 1) rs' (cs.take (i * sz) ++ v.cells ++ cs.drop (i * sz + sz)) hsz (by
        simp [hc1]; rw [Nat.add_mul, Nat.add_mul]; omega) hrs
      refine ⟨?_, by simp [ih.2.1], ?_, ?_⟩
      · simp only [List.zipIdx_cons, List.map_cons, fillV]
        rw [if_pos ⟨hc1, by omega, hc2⟩, ih.1]
        congr 1
        rw [List.flatten_cons, ← List.append_assoc]
        congr 1
        rw [Nat.add_mul, Nat.one_mul, List.take_append_of_le_length (by simp [hc1]; omega)]
        rw [List.take_of_length_le (by simp [hc1]; omega)]
      · intro c' hc'; rcases List.mem_cons.1 hc' with rfl | hc'
        · exact hc1
        · exact ih.2.2.1 c' hc'
      · intro c' hc'; rcases List.mem_cons.1 hc' with rfl | hc'
        · exact List.all_eq_true.1 hc2
        · exact ih.2.2.2 c' hc'
    · simp at hc

theorem flat_get {α : Type} {css : List (List α)} {sz : Nat} (h : ∀ cs ∈ css, cs.length = sz) {i j : Nat} {cs : List α} {a : α} (hi : css[i]? = some cs) (hj : cs[j]? = some a) : css.flatten[i * sz + j]? = some a := by
  induction css generalizing i with
  | nil => simp at hi
  | cons c r ih =>
    have hc : c.length = sz := h c (by simp)
    cases i with
    | zero =>
      simp at hi; subst hi
      have hlt := (List.getElem?_eq_some_iff.1 hj).1
      rw [List.flatten_cons, List.getElem?_append_left (by omega)]; simpa using hj
    | succ i =>
      rw [List.flatten_cons, List.getElem?_append_right (by rw [hc, Nat.succ_mul]; omega)]
      have : (i + 1) * sz + j - c.length = i * sz + j := by rw [hc, Nat.succ_mul]; omega
      rw [this]
      exact ih (fun cs hcs => h cs (List.mem_cons_of_mem _ hcs)) (by simpa using hi)
theorem flat_len {α : Type} {css : List (List α)} {sz : Nat} (h : ∀ cs ∈ css, cs.length = sz) : css.flatten.length = css.length * sz := by
  induction css with
  | nil => simp
  | cons c r ih =>
    rw [List.flatten_cons, List.length_append, h c (by simp), ih (fun cs hcs => h cs (List.mem_cons_of_mem _ hcs)), List.length_cons, Nat.succ_mul]; omega

theorem zeros_cells {zv : Value} {z : List K} {n : Nat} (hm : zv.cells.toList.mapM kOf = some z) (hpos : 0 < z.length) : ∀ k, k < n → ∃ c, z[k % z.length]? = some c ∧ ((Array.range n).map (zv.cells[· % zv.cells.size]!))[k]? = some c.val := by
  intro k hk
  obtain ⟨h1, h2⟩ := mapM_kOf hm
  have hsz : zv.cells.size = z.length := by simpa using h1.symm
  have hlt : k % z.length < z.length := Nat.mod_lt _ hpos
  refine ⟨z[k % z.length], List.getElem?_eq_getElem hlt, ?_⟩
  have h3 := h2 _ _ (List.getElem?_eq_getElem hlt)
  simp only [Array.getElem?_toList] at h3
  have hlt2 : k % z.length < zv.cells.size := by rw [hsz]; exact hlt
  rw [Array.getElem?_map, Array.getElem?_range, if_pos hk]
  simp only [Option.map_some]
  rw [hsz, getElem!_pos zv.cells (k % z.length) hlt2]
  rw [Array.getElem?_eq_getElem hlt2] at h3
  exact h3

theorem m_bslice {t e : TypeId} {len sz : Nat} {ps : Array (Nat × Operand)} {z : List K} {l : List (Nat × O)} {rs : List (List AV)} (E : EnvRep P w D ι env a) (ho : o.op = .buildSlice t len ps) (ht : P.underlying t = some (.slice e)) (hsz : cSize P e = some (sz + 1)) (hz : cZero P e = some z)
    (hl : cParts P ps = some l) (hsm : len * (sz + 1) ≤ 4096) (hrng : l.map (·.1) = List.range len) (hv : rowsOf (sz + 1) (l.map fun x => evO env x.2) = some rs) : Mk P a o w D ι id (.own id 0 len) ⟨true, sz + 1, rs⟩ := by
  obtain ⟨it, zv, hi, hzv, hs, hm, hzl⟩ := zero_info hz
  have hisz : it.size = sz + 1 := by simpa [cSize, hi] using hsz
  obtain ⟨n1, r1⟩ := cParts_rel E hl
  have hll : l.length = len := by have := congrArg List.length hrng; simpa using this
  by_cases h0 : len = 0
  · subst h0
    have hl0 : l = [] := List.length_eq_zero_iff.1 hll
    subst hl0
    simp [rowsOf] at hv; subst hv
    have hp0 : ps = #[] := by
      apply Array.ext'; apply List.eq_nil_of_length_eq_zero; rw [← n1]; rfl
    subst hp0
    refine ⟨.slice (some ⟨w.heap.size, 0, none⟩) 0 0, #[], e, ?_, rfl, by simp, by simp, by simp, fun i j cs x hi => by simp at hi, fun ι' hι => ?_⟩
    · simp [execOp, ho, Instr.buildSlice, run_underlying ht, sizeOf, typeInfo, hi, Instr.fill, newRow, Array.range_zero']
    · exact .own _ 0 0 0 0 _ hι (Nat.le_refl _) (.inl rfl) (by simp) (by simp [maxLen])
  · have hzc : RepL P w D ι ((List.range (len * (sz + 1))).map fun k => (z.getD (k % z.length) .nils).av) ((Array.range (len * (sz + 1))).map (zv.cells[· % zv.cells.size]!)) := by
      refine ⟨by simp, fun j x hx => ?_⟩
      simp only [List.getElem?_map, Option.map_eq_some_iff] at hx
      obtain ⟨k, hk, rfl⟩ := hx
      have hkl := (List.getElem?_eq_some_iff.1 hk).1
      simp at hkl
      rw [List.getElem?_range hkl] at hk
      injection hk with hk
      subst hk
      obtain ⟨c, hc, hcv⟩ := zeros_cells hm (by rw [hzl, hisz]; omega) j hkl
      exact ⟨c.val, hcv, by rw [List.getD_eq_getElem?_getD, hc]; exact rep_k c⟩
    obtain ⟨f1, f2, f3, f4⟩ := fillV_rows (l.map fun x => evO env x.2) (sz + 1) 0 rs ((List.range (len * (sz + 1))).map fun k => (z.getD (k % z.length) .nils).av) (by omega) (by simp [hll]) hv
    obtain ⟨cells', h1, h2, h3, h4⟩ := fill_rel (P := P) (w := w) (D := D) (ι := ι) (fun i => some (i * it.size, it.size)) (ps.toList.map fun (i, x) => (i, a.eval x)) _ _ _ _ hzc
      (fun b hb => by obtain ⟨c, _, rfl⟩ := List.mem_map.1 hb; exact K.av_cell _) (by simp [n1]) (fun k i u o' n x hk1 hk2 => by
      simp only [List.getElem?_map, Option.map_eq_some_iff] at hk1 hk2
      obtain ⟨⟨i', x'⟩, hp, e1⟩ := hk1
      obtain ⟨⟨v2, j2⟩, hq', e2⟩ := hk2
      simp only [Prod.mk.injEq] at e1 e2
      obtain ⟨rfl, rfl⟩ := e1
      obtain ⟨rfl, rfl, rfl⟩ := e2
      rw [List.getElem?_zipIdx] at hq'
      simp only [List.getElem?_map, Option.map_map, Option.map_eq_some_iff, Function.comp_apply, Prod.mk.injEq, Nat.zero_add] at hq'
      obtain ⟨⟨i2, y⟩, hlk, rfl, rfl⟩ := hq'
      obtain ⟨x2, hx2, hc⟩ := r1 _ _ _ hlk
      rw [hp] at hx2
      simp only [Option.some.injEq, Prod.mk.injEq] at hx2
      obtain ⟨rfl, rfl⟩ := hx2
      have hik : (l.map (·.1))[k]? = some i' := by rw [List.getElem?_map, hlk]; rfl
      have hkl := (List.getElem?_eq_some_iff.1 hik).1
      rw [hrng] at hik
      simp at hkl
      rw [List.getElem?_range (by omega)] at hik
      injection hik with hik
      subst hik
      exact ⟨by rw [hisz], rep_O E hc⟩) f1
    simp only [Nat.zero_mul, List.take_zero, List.nil_append, List.length_map] at h2 h3 h4 f2
    have hcs : cells'.size = len * (sz + 1) := by rw [h2.1, h4]; simp
    refine ⟨.slice (some ⟨w.heap.size, 0, none⟩) len len, cells', e, ?_, rfl, ?_, f3, f4, fun i j cs x hi' hj => h2.2 _ _ (flat_get f3 hi' hj), fun ι' hι => ?_⟩
    · have hrun := run_buildSlice (P := P) w t e len (ps.map fun (i, x) => (i, a.eval x)) cells' it zv ht hi hzv (by rw [hisz]; omega) (by rw [hisz]; exact Nat.mul_ne_zero h0 (by omega)) (by rw [← hisz] at h1; simpa using h1)
      simp only [execOp, ho, Sem.run_bind, hrun, Result.andThen_ok, Sem.run_pure]
    · dsimp only; rw [f2, hll, hcs]; exact Nat.le_refl _
    · refine .own _ 0 len 0 len _ hι (Nat.le_refl _) (.inr (by simp)) ?_ (by simp only [maxLen]; have := Nat.le_mul_of_pos_right len (show 0 < sz + 1 by omega); omega)
      dsimp only; rw [hcs]; simp

theorem m_mkslice {t e : TypeId} {it : TypeInfo} {m : Nat} {z : List K} {l c : Operand} {l' c' : O} {n : Nat} {r : Row} (E : EnvRep P w D ι env a) (ho : o.op = .makeSlice t l c) (ht : P.underlying t = some (.slice e)) (hsz : cSize P e = some (m + 1)) (hz : cZero P e = some z) (hit : P.info? e = some it) (hby : it.bytes ≤ 32768)
    (hl : cO P l = some l') (hc : cO P c = some c') (hv : vmk z (evO env l') (evO env c') = some (n, r)) : Mk P a o w D ι id (.own id 0 n) r := by
  obtain ⟨it', zv, hi, hzv, hs, hm, hzl⟩ := zero_info hz
  rw [hit] at hi; injection hi with hi; subst hi
  have hisz : it.size = m + 1 := by simpa [cSize, hit] using hsz
  unfold vmk at hv
  split at hv
  · rename_i k1 ln k2 cn e1 e2
    split at hv
    · rename_i hb
      obtain ⟨b1, b2, b3⟩ := hb
      simp at hv
      obtain ⟨rfl, rfl⟩ := hv
      have r1 := rep_int (e1 ▸ rep_O E hl)
      have r2 := rep_int (e2 ▸ rep_O E hc)
      unfold most at b3
      have hbb : (it.bytes : Int) * cn ≤ 281474976710656 := by
        have h1 : (it.bytes : Int) ≤ 32768 := by omega
        have h2 : (it.bytes : Int) * cn ≤ 32768 * 16777216 := Int.mul_le_mul h1 (by omega) (by omega) (by omega)
        omega
      have hrun := run_make (P := P) w t e it zv ht hit hzv k1 k2 ln cn b1 b2 hbb (by omega)
      have hcell : ∀ k, k < cn.toNat * it.size → ∃ x, z[k % z.length]? = some x ∧ (madeCells zv.cells (cn.toNat * it.size))[k]? = some x.val := fun k hk => zeros_cells hm (by rw [hzl, hisz]; omega) k hk
      refine ⟨.slice (some ⟨w.heap.size, 0, none⟩) ln.toNat cn.toNat, madeCells zv.cells (cn.toNat * it.size), e, by simp only [execOp, ho, r1, r2, Sem.run_bind, hrun, Result.andThen_ok, Sem.run_pure], rfl, ?_, ?_, ?_, ?_, fun ι' hι => ?_⟩
      · simp only [List.length_replicate, size_madeCells, hzl]
        exact Nat.mul_le_mul_right _ (by omega)
      · intro cs hcs
        have := List.eq_of_mem_replicate hcs
        subst this; simp
      · intro cs hcs x hx
        have := List.eq_of_mem_replicate hcs
        subst this
        obtain ⟨c, _, rfl⟩ := List.mem_map.1 hx; exact c.av_cell
      · intro i j cs x hi' hj
        have hil := (List.getElem?_eq_some_iff.1 hi').1
        have := List.eq_of_mem_replicate (List.mem_of_getElem? hi')
        subst this
        simp only [List.length_replicate] at hil
        simp only [List.getElem?_map, Option.map_eq_some_iff] at hj
        obtain ⟨q, hq, rfl⟩ := hj
        have hjl := (List.getElem?_eq_some_iff.1 hq).1
        dsimp only
        obtain ⟨x, hx, hx2⟩ := hcell (i * z.length + j) (by
          rw [← hzl]
          calc i * z.length + j < i * z.length + z.length := by omega
            _ = (i + 1) * z.length := by rw [Nat.add_mul, Nat.one_mul]
            _ ≤ cn.toNat * z.length := Nat.mul_le_mul_right _ (by omega))
        rw [Nat.mul_comm i, Nat.mul_add_mod, Nat.mod_eq_of_lt hjl, hq] at hx
        injection hx with hx; subst hx
        exact ⟨_, by rw [Nat.mul_comm i] at hx2 ⊢; exact hx2, rep_k q⟩
      · refine .own _ 0 _ 0 _ _ hι (by omega) (.inr (by simp)) ?_ (by simp only [maxLen]; omega)
        dsimp only; rw [size_madeCells, hzl]; simp
    · simp at hv
  · simp at hv

end
end Go.Proofs.YtpbniieiinhliaaGreat.V

namespace Go.Proofs.YtpbniieiinhliaaGreat.V
open Go.RowKit

variable {P : Program} {w w' : World} {D D' : Nat → Prop} {ι ι' : Names}

def QRes (P : Program) (a : Act) (o : Oper) (w : World) (D : Nat → Prop) (ι : Names) (id : Id) (v : AV) : Option Row → Prop
  | none => Yld P a o w D ι v
  | some r => Mk P a o w D ι id v r

section
variable {g : Rows} {hs : Nat} {env : Env} {a : Act} {o : Oper} {id : Id} {v : AV}

theorem qmap {x : Option AV} {mr : Option Row} (h : x.map (·, (none : Option Row)) = some (v, mr)) (H : x = some v → Yld P a o w D ι v) : QRes P a o w D ι id v mr := by
  cases x with
  | none => simp at h
  | some y => simp at h; obtain ⟨rfl, rfl⟩ := h; exact H rfl

theorem q_eq {neg : Bool} {t yt : TypeId} {x y : Operand} {vo : VOp} {mr : Option Row} (ho : o.op = .binOp (if neg then .neq else .eql) t x y yt) (hc : cEqB P neg t x y = some vo) (hq : qop vo (evO env) g id = some (v, mr)) (E : EnvRep P w D ι env a) : QRes P a o w D ι id v mr := by
  unfold cEqB at hc
  split at hc
  · split at hc
    · rename_i e ht
      simp only [Option.map_eq_some_iff] at hc
      obtain ⟨x', hx, rfl⟩ := hc
      simp only [qop, vnil, Bool.false_eq_true, if_false, Option.map_eq_some_iff, Prod.mk.injEq] at hq
      obtain ⟨b, hb, rfl, rfl⟩ := hq
      exact y_eqNs E ho ht hx hb
    · simp at hc
  · split at hc
    · rename_i ht
      simp only [Option.map_eq_some_iff] at hc
      obtain ⟨x', hx, rfl⟩ := hc
      simp only [qop, vnil, if_true, Option.map_eq_some_iff, Prod.mk.injEq] at hq
      obtain ⟨b, hb, rfl, rfl⟩ := hq
      exact y_eqNf E ho ht hx hb
    · simp at hc
  · split at hc
    · rename_i s hs
      simp only [Option.bind_eq_bind, Option.bind_eq_some_iff, Option.pure_def, Option.some.injEq] at hc
      obtain ⟨x', hx, y', hy, rfl⟩ := hc
      simp only [qop, Option.map_eq_some_iff, Prod.mk.injEq] at hq
      obtain ⟨b, hb, rfl, rfl⟩ := hq
      have hs' : scalarT P t = some s := by
        unfold cEq at hs
        split at hs
        · rename_i s' h; simp at hs; subst hs; exact h
        · split at hs
          · split at hs
            · simp at hs
            · simp at hs
          · simp at hs
      exact y_eqS E ho hs' hx hy hb
    · rename_i ts hs
      simp only [Option.bind_eq_bind, Option.bind_eq_some_iff, Option.pure_def, Option.some.injEq] at hc
      obtain ⟨x', hx, y', hy, rfl⟩ := hc
      simp only [qop] at hq
      split at hq
      · rename_i xs ys h1 h2
        simp only [Option.map_eq_some_iff, Prod.mk.injEq] at hq
        obtain ⟨b, hb, rfl, rfl⟩ := hq
        unfold cEq at hs
        split at hs
        · simp at hs
        · split at hs
          · rename_i fs hfs
            split at hs
            · rename_i hg
              simp only [Option.map_eq_some_iff, EqT.ag.injEq] at hs
              obtain ⟨ts', hts, rfl⟩ := hs
              simp only [Bool.and_eq_true, Bool.not_eq_true'] at hg
              exact y_eqA E ho hfs hg.1 hg.2 hts hx hy h1 h2 hb
            · simp at hs
          · simp at hs
      · simp at hq
    · simp at hc

theorem q_call {c : Call} {vo : VOp} {mr : Option Row} (ho : o.op = .call c) (hc : cCall P c = some vo) (hq : qop vo (evO env) g id = some (v, mr)) (E : EnvRep P w D ι env a) : QRes P a o w D ι id v mr := by
  unfold cCall at hc
  split at hc
  · rename_i hcal
    split at hc
    · rename_i x t h1 h2
      have hce : c = { callee := .builtin .len, args := #[x], argTypes := #[t] } := by
        obtain ⟨a, b, c⟩ := c
        simp only at h1 h2 hcal
        subst hcal
        congr
        · exact Array.ext' h1
        · exact Array.ext' h2
      rw [hce] at ho
      split at hc
      · rename_i e ht
        simp only [Option.map_eq_some_iff] at hc
        obtain ⟨x', hx, rfl⟩ := hc
        simp only [qop, Option.map_eq_some_iff, Prod.mk.injEq] at hq
        obtain ⟨n, hn, rfl, rfl⟩ := hq
        exact y_len E ho ht hx hn
      · rename_i ht
        simp only [Option.map_eq_some_iff] at hc
        obtain ⟨x', hx, rfl⟩ := hc
        exact qmap hq fun h => y_lenS E ho ht hx h
      · simp at hc
    · simp at hc
  · split at hc
    · split at hc
      · split at hc
        · split at hc
          · simp only [Option.bind_eq_bind, Option.bind_eq_some_iff, Option.pure_def, Option.some.injEq] at hc
            obtain ⟨x', hx, y', hy, rfl⟩ := hc
            simp [qop] at hq
          · simp at hc
        · simp at hc
      · simp at hc
    · simp at hc
  · split at hc
    · split at hc
      · split at hc
        · simp only [Option.map_eq_some_iff] at hc
          obtain ⟨x', hx, rfl⟩ := hc
          simp [qop] at hq
        · simp at hc
      · simp at hc
    · simp at hc
  · split at hc
    · simp only [Option.map_eq_some_iff] at hc
      obtain ⟨x', hx, rfl⟩ := hc
      simp [qop] at hq
    · simp at hc
  · simp only [Option.map_eq_some_iff] at hc
    obtain ⟨x', hx, rfl⟩ := hc
    simp [qop] at hq
  · simp at hc

theorem qop_sound {vo : VOp} {mr : Option Row} (hc : cOp P o.op = some vo) (hq : qop vo (evO env) g id = some (v, mr)) (S : Sim P hs D ι g w) (E : EnvRep P w D ι env a) : QRes P a o w D ι id v mr := by
  unfold cOp at hc
  split at hc
  · rename_i ho
    simp only [Option.map_eq_some_iff] at hc
    obtain ⟨x', hx, rfl⟩ := hc
    simp [qop] at hq; obtain ⟨rfl, rfl⟩ := hq
    exact y_mov E (.inl ho) hx
  · rename_i ho
    simp only [Option.map_eq_some_iff] at hc
    obtain ⟨x', hx, rfl⟩ := hc
    simp [qop] at hq; obtain ⟨rfl, rfl⟩ := hq
    exact y_mov E (.inr ho) hx
  · rename_i ho
    simp only [Option.bind_eq_bind, Option.bind_eq_some_iff, Option.pure_def, Option.some.injEq] at hc
    obtain ⟨c', h1, x', h2, y', h3, rfl⟩ := hc
    exact qmap hq fun h => y_pick E ho h1 h2 h3 h
  · rename_i ho
    simp only [Option.map_eq_some_iff] at hc
    obtain ⟨z, hz, rfl⟩ := hc
    simp only [qop, Option.some.injEq, Prod.mk.injEq] at hq
    obtain ⟨rfl, rfl⟩ := hq
    exact m_new ho hz
  · rename_i ho
    simp only [Option.map_eq_some_iff] at hc
    obtain ⟨x', hx, rfl⟩ := hc
    simp only [qop, Option.map_eq_some_iff, Prod.mk.injEq] at hq
    obtain ⟨cs, hcs, rfl, rfl⟩ := hq
    exact m_box E ho hx hcs
  · rename_i ho
    simp only [Option.bind_eq_bind, Option.bind_eq_some_iff, Option.pure_def, Option.some.injEq] at hc
    obtain ⟨ag, h1, n, h2, x', h3, rfl⟩ := hc
    exact qmap hq fun h => y_load S E ho h1 h2 h3 h
  · rename_i ho
    simp only [Option.bind_eq_bind, Option.bind_eq_some_iff, Option.pure_def, Option.some.injEq] at hc
    obtain ⟨n, h2, x', h3, y', h4, rfl⟩ := hc
    simp [qop] at hq
  · rename_i ho
    simp only [Option.map_eq_some_iff] at hc
    obtain ⟨x', hx, rfl⟩ := hc
    exact qmap hq fun h => y_chk E ho hx h
  · rename_i op t x y yt ho
    unfold cBin at hc
    split at hc
    · exact q_eq (neg := false) ho hc hq E
    · exact q_eq (neg := true) ho hc hq E
    · simp only [Option.bind_eq_bind, Option.bind_eq_some_iff, Option.pure_def, Option.some.injEq] at hc
      obtain ⟨x', h3, y', h4, rfl⟩ := hc
      exact qmap hq fun h => y_sh (left := true) E ho h3 h4 h
    · simp only [Option.bind_eq_bind, Option.bind_eq_some_iff, Option.pure_def, Option.some.injEq] at hc
      obtain ⟨x', h3, y', h4, rfl⟩ := hc
      exact qmap hq fun h => y_sh (left := false) E ho h3 h4 h
    · rename_i n1 n2 n3 n4
      split at hc
      · simp only [Option.bind_eq_bind, Option.bind_eq_some_iff, Option.pure_def, Option.some.injEq] at hc
        obtain ⟨x', h3, y', h4, rfl⟩ := hc
        exact qmap hq fun h => y_bin E ho n1 n2 h3 h4 h
      · simp only [Option.bind_eq_bind, Option.bind_eq_some_iff, Option.pure_def, Option.some.injEq] at hc
        obtain ⟨x', h3, y', h4, rfl⟩ := hc
        exact qmap hq fun h => y_cmpS E ho n1 n2 h3 h4 h
      · simp at hc
  · rename_i ho
    simp only [Option.map_eq_some_iff] at hc
    obtain ⟨x', hx, rfl⟩ := hc
    exact qmap hq fun h => y_not E ho hx h
  · rename_i ho
    simp only [Option.map_eq_some_iff] at hc
    obtain ⟨x', hx, rfl⟩ := hc
    exact qmap hq fun h => y_neg E ho hx h
  · rename_i ho
    split at hc
    · rename_i q k h1 h2
      simp only [Option.map_eq_some_iff] at hc
      obtain ⟨x', hx, rfl⟩ := hc
      exact qmap hq fun h => y_conv E ho h1 h2 hx h
    · rename_i h1 h2
      simp only [Option.map_eq_some_iff] at hc
      obtain ⟨x', hx, rfl⟩ := hc
      exact qmap hq fun h => by
        have hr := rep_O E hx
        unfold vconvS at h
        split at h
        · rename_i s hb
          simp at h; subst h
          rw [hb] at hr
          exact ⟨.string s, by simp only [execOp, ho, rep_str hr, convert, Sem.run_bind, run_underlying h1, run_underlying h2, Result.andThen_ok, Sem.run_pure], .imm _ _ (.str _)⟩
        · simp at h
    · simp at hc
  · rename_i ho
    split at hc
    · rename_i e ht
      simp only [Option.bind_eq_bind, Option.bind_eq_some_iff, Option.pure_def, Option.some.injEq] at hc
      obtain ⟨n, h1, x', h2, lo, h3, hi, h4, rfl⟩ := hc
      exact qmap hq fun h => y_slice S E ho ht h1 h2 h3 h4 h
    · rename_i ht
      simp only [Option.bind_eq_bind, Option.bind_eq_some_iff, Option.pure_def, Option.some.injEq] at hc
      obtain ⟨x', h2, lo, h3, hi, h4, rfl⟩ := hc
      exact qmap hq fun h => y_sliceS E ho ht h2 h3 h4 h
    · simp at hc
  · rename_i ho
    split at hc
    · rename_i fs hfs
      split at hc
      · rename_i f hf
        split at hc
        · rename_i m hm
          simp only [Option.map_eq_some_iff] at hc
          obtain ⟨x', hx, rfl⟩ := hc
          exact qmap hq fun h => y_faddr E ho hfs hf hm hx h
        · simp at hc
      · simp at hc
    · simp at hc
  · rename_i ho
    split at hc
    · rename_i fs hfs
      split at hc
      · rename_i f hf
        simp only [Option.bind_eq_bind, Option.bind_eq_some_iff, Option.pure_def, Option.some.injEq] at hc
        obtain ⟨ag, h1, n, h2, x', h3, rfl⟩ := hc
        exact qmap hq fun h => y_field E ho hfs hf h1 h2 h3 h
      · simp at hc
    · simp at hc
  · rename_i ho
    split at hc
    · rename_i e ht
      split at hc
      · rename_i m hm
        simp only [Option.bind_eq_bind, Option.bind_eq_some_iff, Option.pure_def, Option.some.injEq] at hc
        obtain ⟨x', h1, i', h2, rfl⟩ := hc
        exact qmap hq fun h => y_iaddr S E ho ht hm h1 h2 h
      · simp at hc
    · simp at hc
  · rename_i ho
    split at hc
    · rename_i ht
      simp only [Option.bind_eq_bind, Option.bind_eq_some_iff, Option.pure_def, Option.some.injEq] at hc
      obtain ⟨x', h1, i', h2, rfl⟩ := hc
      exact qmap hq fun h => y_idxS E ho ht h1 h2 h
    · rename_i len e ht
      simp only [Option.bind_eq_bind, Option.bind_eq_some_iff, Option.pure_def, Option.some.injEq] at hc
      obtain ⟨ag, h0, n, h1, x', h2, i', h3, rfl⟩ := hc
      exact qmap hq fun h => y_idxA E ho ht h0 h1 h2 h3 h
    · simp at hc
  · rename_i ho
    simp only [Option.map_eq_some_iff] at hc
    obtain ⟨x', hx, rfl⟩ := hc
    exact qmap hq fun h => y_extract E ho hx h
  · rename_i ho
    split at hc
    · rename_i fs hfs
      split at hc
      · rename_i z l hz hl
        split at hc
        · rename_i hall
          simp only [Option.map_eq_some_iff] at hc
          obtain ⟨q, hq', rfl⟩ := hc
          simp only [qop, Option.map_eq_some_iff, Prod.mk.injEq] at hq
          obtain ⟨cs, hcs, rfl, rfl⟩ := hq
          exact y_build E ho hfs hz hl (fun f hf => by
            rw [Array.all_eq_true_iff_forall_mem] at hall
            exact hall f (Array.mem_toList_iff.1 hf)) hq' hcs
        · simp at hc
      · simp at hc
    · rename_i len e ht
      split at hc
      · rename_i z l n hz hl hn
        simp only [Option.some.injEq] at hc
        subst hc
        simp only [qop, Option.map_eq_some_iff, Prod.mk.injEq] at hq
        obtain ⟨cs, hcs, rfl, rfl⟩ := hq
        exact y_buildA E ho ht hz hl hn hcs
      · simp at hc
    · simp at hc
  · rename_i ho
    split at hc
    · rename_i e ht
      split at hc
      · rename_i sz z l h1 h2 h3
        split at hc
        · rename_i hh
          simp only [Option.some.injEq] at hc
          subst hc
          simp only [qop, Option.map_eq_some_iff, Prod.mk.injEq] at hq
          obtain ⟨rs, hrs, rfl, rfl⟩ := hq
          exact m_bslice E ho ht h1 h2 h3 hh.1 hh.2 (by rw [List.map_map] at hrs; exact hrs)
        · simp at hc
      · simp at hc
    · simp at hc
  · rename_i ho
    split at hc
    · rename_i hh
      simp only [Option.map_eq_some_iff] at hc
      obtain ⟨l, hl, rfl⟩ := hc
      simp [qop] at hq; obtain ⟨rfl, rfl⟩ := hq
      exact y_mkfn E ho hh.1 hh.2 hl
    · simp at hc
  · rename_i ho
    split at hc
    · rename_i e ht
      split at hc
      · rename_i m z i h1 h2 h3
        split at hc
        · rename_i hb
          simp only [Option.bind_eq_bind, Option.bind_eq_some_iff, Option.pure_def, Option.some.injEq] at hc
          obtain ⟨l', h4, c', h5, rfl⟩ := hc
          simp only [qop, Option.map_eq_some_iff, Prod.mk.injEq] at hq
          obtain ⟨⟨n, r⟩, hr, rfl, rfl⟩ := hq
          exact m_mkslice E ho ht h1 h2 h3 hb h4 h5 hr
        · simp at hc
      · simp at hc
    · simp at hc
  · rename_i ho
    exact q_call ho hc hq E
  · simp at hc

end
end Go.Proofs.YtpbniieiinhliaaGreat.V
