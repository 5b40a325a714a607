/-
  No cell of these rows narrows 'for every input' (looked for: loops, veiled, ifaces, maps, wideKeys, modest, calm, conditions, laid).
  DERIVED. THE GIVEN ROWS OF THIS SEAT. 11 by the template 'for every input the law returns true; each argument reads behind the call as it read before'; 0 by the template 'total and deterministic' (their statements: YtgoelphibofcmaaGreatTotals.lean).
  GIVEN WITH THE SEED: the statements are not yours to turn. If you find one false, say at which input.
  Laid BY PROGRAM, IN A SANDBOX (cutbox-rows.mjs): the forced cells as the released guide's own fill.sh prints them over the translation 36737eda0b9691f5… (all of the seat's roots in one cut). By AI agents, Wed Nov 11 2026. No macro, syntax, notation, axiom, sorry.
-/
import Derived.Test.YtgoelphibofcmaaGreatChecked
import GoSem.Claim
import GoSem.ClaimJoined
import GoSem.ClaimMapViews
import Derived.JoinedTies
import Derived.KernelRfl
namespace Go.Proofs.YtgoelphibofcmaaGreat
/- THE CELL 'sum', in the pinned program and in every row, IS THE sha256 OF THE DUMP (.gsa) THAT YtgoelphibofcmaaGreatProg.lean LOADS. Nothing in Lean hashes anything: it is a label: what it is worth is what the hold of that sum in a sandbox is worth. -/
noncomputable def Tryz.pinned : Pinned := { name := "ytgoelphibofcmaagreat", sum := "36737eda0b9691f584cd56a314fe4bb74538cddea464b48193a556075fc3dddd", checked := Tryz.checked }
namespace Rows
def none {H : Type} : Left H := { results := [], args := [] }

/-- 'laws.FnExactIsProduced': WHATEVER THE INPUT: true; the input reads as it did. -/
def fnExactIsProducedSpec : ChangeSpec := { name := "fnExactIsProduced", fn := fun _ => fun
  | [d1, d2] => { results := [.lit (.bool true)], args := [d1, d2] }
  | _ => none }
def fnExactIsProducedRow : OpenClaim := { program := "ytgoelphibofcmaagreat", sum := "36737eda0b9691f584cd56a314fe4bb74538cddea464b48193a556075fc3dddd", func := "loop.example/g01081/laws.FnExactIsProduced", spec := "fnExactIsProduced", unfollowed := true, recurses := true, plainKeys := false, apart := false }
def FnExactIsProducedSaid : Prop := fnExactIsProducedRow.holds Tryz.pinned (OpenSpec.ofChange fnExactIsProducedSpec)

/-- ITS FALSE NEIGHBOUR: 'it returns false'. Refute it at one input. -/
def fnExactIsProducedWrong : ChangeSpec := { name := "fnExactIsProduced", fn := fun _ => fun
  | [d1, d2] => { results := [.lit (.bool false)], args := [d1, d2] }
  | _ => none }
def FnExactIsProducedWrongFalsely : Prop := fnExactIsProducedRow.holds Tryz.pinned (OpenSpec.ofChange fnExactIsProducedWrong)

/-- 'laws.FnExactIsTight': WHATEVER THE INPUT: true; the input reads as it did. -/
def fnExactIsTightSpec : ChangeSpec := { name := "fnExactIsTight", fn := fun _ => fun
  | [d1, d2] => { results := [.lit (.bool true)], args := [d1, d2] }
  | _ => none }
def fnExactIsTightRow : OpenClaim := { program := "ytgoelphibofcmaagreat", sum := "36737eda0b9691f584cd56a314fe4bb74538cddea464b48193a556075fc3dddd", func := "loop.example/g01081/laws.FnExactIsTight", spec := "fnExactIsTight", unfollowed := true, recurses := true, plainKeys := false, apart := false }
def FnExactIsTightSaid : Prop := fnExactIsTightRow.holds Tryz.pinned (OpenSpec.ofChange fnExactIsTightSpec)

/-- ITS FALSE NEIGHBOUR: 'it returns false'. Refute it at one input. -/
def fnExactIsTightWrong : ChangeSpec := { name := "fnExactIsTight", fn := fun _ => fun
  | [d1, d2] => { results := [.lit (.bool false)], args := [d1, d2] }
  | _ => none }
def FnExactIsTightWrongFalsely : Prop := fnExactIsTightRow.holds Tryz.pinned (OpenSpec.ofChange fnExactIsTightWrong)

/-- 'laws.FnExactTightFault': WHATEVER THE INPUT: true; the input reads as it did. -/
def fnExactTightFaultSpec : ChangeSpec := { name := "fnExactTightFault", fn := fun _ => fun
  | [d1, d2] => { results := [.lit (.bool true)], args := [d1, d2] }
  | _ => none }
def fnExactTightFaultRow : OpenClaim := { program := "ytgoelphibofcmaagreat", sum := "36737eda0b9691f584cd56a314fe4bb74538cddea464b48193a556075fc3dddd", func := "loop.example/g01081/laws.FnExactTightFault", spec := "fnExactTightFault", unfollowed := true, recurses := true, plainKeys := false, apart := false }
def FnExactTightFaultSaid : Prop := fnExactTightFaultRow.holds Tryz.pinned (OpenSpec.ofChange fnExactTightFaultSpec)

/-- ITS FALSE NEIGHBOUR: 'it returns false'. Refute it at one input. -/
def fnExactTightFaultWrong : ChangeSpec := { name := "fnExactTightFault", fn := fun _ => fun
  | [d1, d2] => { results := [.lit (.bool false)], args := [d1, d2] }
  | _ => none }
def FnExactTightFaultWrongFalsely : Prop := fnExactTightFaultRow.holds Tryz.pinned (OpenSpec.ofChange fnExactTightFaultWrong)

/-- 'laws.FnExactRivalsAt': WHATEVER THE INPUT: true; the input reads as it did. -/
def fnExactRivalsAtSpec : ChangeSpec := { name := "fnExactRivalsAt", fn := fun _ => fun
  | [d1, d2] => { results := [.lit (.bool true)], args := [d1, d2] }
  | _ => none }
def fnExactRivalsAtRow : OpenClaim := { program := "ytgoelphibofcmaagreat", sum := "36737eda0b9691f584cd56a314fe4bb74538cddea464b48193a556075fc3dddd", func := "loop.example/g01081/laws.FnExactRivalsAt", spec := "fnExactRivalsAt", unfollowed := true, recurses := true, plainKeys := false, apart := false }
def FnExactRivalsAtSaid : Prop := fnExactRivalsAtRow.holds Tryz.pinned (OpenSpec.ofChange fnExactRivalsAtSpec)

/-- ITS FALSE NEIGHBOUR: 'it returns false'. Refute it at one input. -/
def fnExactRivalsAtWrong : ChangeSpec := { name := "fnExactRivalsAt", fn := fun _ => fun
  | [d1, d2] => { results := [.lit (.bool false)], args := [d1, d2] }
  | _ => none }
def FnExactRivalsAtWrongFalsely : Prop := fnExactRivalsAtRow.holds Tryz.pinned (OpenSpec.ofChange fnExactRivalsAtWrong)

/-- 'laws.FnExactGrowInside': WHATEVER THE INPUT: true; the input reads as it did. -/
def fnExactGrowInsideSpec : ChangeSpec := { name := "fnExactGrowInside", fn := fun _ => fun
  | [d1, d2] => { results := [.lit (.bool true)], args := [d1, d2] }
  | _ => none }
def fnExactGrowInsideRow : OpenClaim := { program := "ytgoelphibofcmaagreat", sum := "36737eda0b9691f584cd56a314fe4bb74538cddea464b48193a556075fc3dddd", func := "loop.example/g01081/laws.FnExactGrowInside", spec := "fnExactGrowInside", unfollowed := true, recurses := true, plainKeys := false, apart := false }
def FnExactGrowInsideSaid : Prop := fnExactGrowInsideRow.holds Tryz.pinned (OpenSpec.ofChange fnExactGrowInsideSpec)

/-- ITS FALSE NEIGHBOUR: 'it returns false'. Refute it at one input. -/
def fnExactGrowInsideWrong : ChangeSpec := { name := "fnExactGrowInside", fn := fun _ => fun
  | [d1, d2] => { results := [.lit (.bool false)], args := [d1, d2] }
  | _ => none }
def FnExactGrowInsideWrongFalsely : Prop := fnExactGrowInsideRow.holds Tryz.pinned (OpenSpec.ofChange fnExactGrowInsideWrong)

/-- 'laws.FnExactAttachWeakly': WHATEVER THE INPUT: true; the input reads as it did. -/
def fnExactAttachWeaklySpec : ChangeSpec := { name := "fnExactAttachWeakly", fn := fun _ => fun
  | [d1, d2, d3] => { results := [.lit (.bool true)], args := [d1, d2, d3] }
  | _ => none }
def fnExactAttachWeaklyRow : OpenClaim := { program := "ytgoelphibofcmaagreat", sum := "36737eda0b9691f584cd56a314fe4bb74538cddea464b48193a556075fc3dddd", func := "loop.example/g01081/laws.FnExactAttachWeakly", spec := "fnExactAttachWeakly", inPlace := ["slices.overlaps[loop.example/g01081/impl.Placed]"], unfollowed := true, recurses := true, plainKeys := false, apart := false }
def FnExactAttachWeaklySaid : Prop := fnExactAttachWeaklyRow.holds Tryz.pinned (OpenSpec.ofChange fnExactAttachWeaklySpec)

/-- ITS FALSE NEIGHBOUR: 'it returns false'. Refute it at one input. -/
def fnExactAttachWeaklyWrong : ChangeSpec := { name := "fnExactAttachWeakly", fn := fun _ => fun
  | [d1, d2, d3] => { results := [.lit (.bool false)], args := [d1, d2, d3] }
  | _ => none }
def FnExactAttachWeaklyWrongFalsely : Prop := fnExactAttachWeaklyRow.holds Tryz.pinned (OpenSpec.ofChange fnExactAttachWeaklyWrong)

/-- 'laws.FnExactOptionsOf': WHATEVER THE INPUT: true; the input reads as it did. -/
def fnExactOptionsOfSpec : ChangeSpec := { name := "fnExactOptionsOf", fn := fun _ => fun
  | [d1, d2] => { results := [.lit (.bool true)], args := [d1, d2] }
  | _ => none }
def fnExactOptionsOfRow : OpenClaim := { program := "ytgoelphibofcmaagreat", sum := "36737eda0b9691f584cd56a314fe4bb74538cddea464b48193a556075fc3dddd", func := "loop.example/g01081/laws.FnExactOptionsOf", spec := "fnExactOptionsOf", unfollowed := true, recurses := true, plainKeys := false, apart := false }
def FnExactOptionsOfSaid : Prop := fnExactOptionsOfRow.holds Tryz.pinned (OpenSpec.ofChange fnExactOptionsOfSpec)

/-- ITS FALSE NEIGHBOUR: 'it returns false'. Refute it at one input. -/
def fnExactOptionsOfWrong : ChangeSpec := { name := "fnExactOptionsOf", fn := fun _ => fun
  | [d1, d2] => { results := [.lit (.bool false)], args := [d1, d2] }
  | _ => none }
def FnExactOptionsOfWrongFalsely : Prop := fnExactOptionsOfRow.holds Tryz.pinned (OpenSpec.ofChange fnExactOptionsOfWrong)

/-- 'laws.FnExactSequenceOf': WHATEVER THE INPUT: true; the input reads as it did. -/
def fnExactSequenceOfSpec : ChangeSpec := { name := "fnExactSequenceOf", fn := fun _ => fun
  | [d1, d2] => { results := [.lit (.bool true)], args := [d1, d2] }
  | _ => none }
def fnExactSequenceOfRow : OpenClaim := { program := "ytgoelphibofcmaagreat", sum := "36737eda0b9691f584cd56a314fe4bb74538cddea464b48193a556075fc3dddd", func := "loop.example/g01081/laws.FnExactSequenceOf", spec := "fnExactSequenceOf", unfollowed := true, recurses := true, plainKeys := false, apart := false }
def FnExactSequenceOfSaid : Prop := fnExactSequenceOfRow.holds Tryz.pinned (OpenSpec.ofChange fnExactSequenceOfSpec)

/-- ITS FALSE NEIGHBOUR: 'it returns false'. Refute it at one input. -/
def fnExactSequenceOfWrong : ChangeSpec := { name := "fnExactSequenceOf", fn := fun _ => fun
  | [d1, d2] => { results := [.lit (.bool false)], args := [d1, d2] }
  | _ => none }
def FnExactSequenceOfWrongFalsely : Prop := fnExactSequenceOfRow.holds Tryz.pinned (OpenSpec.ofChange fnExactSequenceOfWrong)

/-- 'laws.FnExactWeakOptions': WHATEVER THE INPUT: true; the input reads as it did. -/
def fnExactWeakOptionsSpec : ChangeSpec := { name := "fnExactWeakOptions", fn := fun _ => fun
  | [d1, d2] => { results := [.lit (.bool true)], args := [d1, d2] }
  | _ => none }
def fnExactWeakOptionsRow : OpenClaim := { program := "ytgoelphibofcmaagreat", sum := "36737eda0b9691f584cd56a314fe4bb74538cddea464b48193a556075fc3dddd", func := "loop.example/g01081/laws.FnExactWeakOptions", spec := "fnExactWeakOptions", unfollowed := true, recurses := true, plainKeys := false, apart := false }
def FnExactWeakOptionsSaid : Prop := fnExactWeakOptionsRow.holds Tryz.pinned (OpenSpec.ofChange fnExactWeakOptionsSpec)

/-- ITS FALSE NEIGHBOUR: 'it returns false'. Refute it at one input. -/
def fnExactWeakOptionsWrong : ChangeSpec := { name := "fnExactWeakOptions", fn := fun _ => fun
  | [d1, d2] => { results := [.lit (.bool false)], args := [d1, d2] }
  | _ => none }
def FnExactWeakOptionsWrongFalsely : Prop := fnExactWeakOptionsRow.holds Tryz.pinned (OpenSpec.ofChange fnExactWeakOptionsWrong)

/-- 'laws.FnExactInputsOf': WHATEVER THE INPUT: true; the input reads as it did. -/
def fnExactInputsOfSpec : ChangeSpec := { name := "fnExactInputsOf", fn := fun _ => fun
  | [d1, d2] => { results := [.lit (.bool true)], args := [d1, d2] }
  | _ => none }
def fnExactInputsOfRow : OpenClaim := { program := "ytgoelphibofcmaagreat", sum := "36737eda0b9691f584cd56a314fe4bb74538cddea464b48193a556075fc3dddd", func := "loop.example/g01081/laws.FnExactInputsOf", spec := "fnExactInputsOf", unfollowed := true, recurses := true, plainKeys := false, apart := false }
def FnExactInputsOfSaid : Prop := fnExactInputsOfRow.holds Tryz.pinned (OpenSpec.ofChange fnExactInputsOfSpec)

/-- ITS FALSE NEIGHBOUR: 'it returns false'. Refute it at one input. -/
def fnExactInputsOfWrong : ChangeSpec := { name := "fnExactInputsOf", fn := fun _ => fun
  | [d1, d2] => { results := [.lit (.bool false)], args := [d1, d2] }
  | _ => none }
def FnExactInputsOfWrongFalsely : Prop := fnExactInputsOfRow.holds Tryz.pinned (OpenSpec.ofChange fnExactInputsOfWrong)

/-- 'laws.FnExactOutputsOf': WHATEVER THE INPUT: true; the input reads as it did. -/
def fnExactOutputsOfSpec : ChangeSpec := { name := "fnExactOutputsOf", fn := fun _ => fun
  | [d1, d2] => { results := [.lit (.bool true)], args := [d1, d2] }
  | _ => none }
def fnExactOutputsOfRow : OpenClaim := { program := "ytgoelphibofcmaagreat", sum := "36737eda0b9691f584cd56a314fe4bb74538cddea464b48193a556075fc3dddd", func := "loop.example/g01081/laws.FnExactOutputsOf", spec := "fnExactOutputsOf", unfollowed := true, recurses := true, plainKeys := false, apart := false }
def FnExactOutputsOfSaid : Prop := fnExactOutputsOfRow.holds Tryz.pinned (OpenSpec.ofChange fnExactOutputsOfSpec)

/-- ITS FALSE NEIGHBOUR: 'it returns false'. Refute it at one input. -/
def fnExactOutputsOfWrong : ChangeSpec := { name := "fnExactOutputsOf", fn := fun _ => fun
  | [d1, d2] => { results := [.lit (.bool false)], args := [d1, d2] }
  | _ => none }
def FnExactOutputsOfWrongFalsely : Prop := fnExactOutputsOfRow.holds Tryz.pinned (OpenSpec.ofChange fnExactOutputsOfWrong)

/- THE SECOND FORM. 'bulk': how many values and letters a reading holds, each counted each time it is reached (what is shared counts as often as it is met; a slice's spare places count too). A statement '..UptoSaid' is the law's where the arguments, and the package variables that the reading takes, are together of bulk at most 1048576: NARROWER than '..Said'. Prove '..Said' where nothing that the law and all that it calls make is longer than what came in: it says more and counts as full. Else prove '..UptoSaid'. A law counts once. -/
mutual
def uptoBulk {H : Type} : DataW H → Nat
  | .lit (.string bytes) => bytes.length + 1
  | .lit _ => 1
  | .nil => 1
  | .ptr d => uptoBulk d + 1
  | .slice elems spare => uptoBulkAll elems + uptoBulkAll spare + 1
  | .agg parts => uptoBulkAll parts + 1
  | .iface _ d => uptoBulk d + 1
  | .map entries => uptoBulkEntries entries + 1
  | .held _ => 1
def uptoBulkAll {H : Type} : List (DataW H) → Nat
  | [] => 0
  | d :: r => uptoBulk d + uptoBulkAll r
def uptoBulkEntries {H : Type} : List (Lit × DataW H) → Nat
  | [] => 0
  | x :: r => uptoBulkEntry x + uptoBulkEntries r
def uptoBulkEntry {H : Type} : Lit × DataW H → Nat
  | (.string bytes, d) => bytes.length + uptoBulk d + 1
  | (_, d) => uptoBulk d + 1
 end
def uptoSmall : (H : Type) → List (DataW H) → Bool := fun _ ds => decide (uptoBulkAll ds ≤ 1048576)
def OpenSpec.upto (s : _root_.Go.ChangeSpec) : _root_.Go.OpenSpec := { _root_.Go.OpenSpec.ofChange s with cond := some uptoSmall }

/-- 'laws.FnExactIsProduced', WHERE WHAT IT READS IS OF BULK AT MOST 1048576: true; the input reads as it did. -/
def fnExactIsProducedUptoRow : OpenClaim := { program := "ytgoelphibofcmaagreat", sum := "36737eda0b9691f584cd56a314fe4bb74538cddea464b48193a556075fc3dddd", func := "loop.example/g01081/laws.FnExactIsProduced", spec := "fnExactIsProduced", unfollowed := true, recurses := true, plainKeys := false, apart := false, narrowed := true }
def FnExactIsProducedUptoSaid : Prop := fnExactIsProducedUptoRow.holds Tryz.pinned (OpenSpec.upto fnExactIsProducedSpec)

/-- 'laws.FnExactIsTight', WHERE WHAT IT READS IS OF BULK AT MOST 1048576: true; the input reads as it did. -/
def fnExactIsTightUptoRow : OpenClaim := { program := "ytgoelphibofcmaagreat", sum := "36737eda0b9691f584cd56a314fe4bb74538cddea464b48193a556075fc3dddd", func := "loop.example/g01081/laws.FnExactIsTight", spec := "fnExactIsTight", unfollowed := true, recurses := true, plainKeys := false, apart := false, narrowed := true }
def FnExactIsTightUptoSaid : Prop := fnExactIsTightUptoRow.holds Tryz.pinned (OpenSpec.upto fnExactIsTightSpec)

/-- 'laws.FnExactTightFault', WHERE WHAT IT READS IS OF BULK AT MOST 1048576: true; the input reads as it did. -/
def fnExactTightFaultUptoRow : OpenClaim := { program := "ytgoelphibofcmaagreat", sum := "36737eda0b9691f584cd56a314fe4bb74538cddea464b48193a556075fc3dddd", func := "loop.example/g01081/laws.FnExactTightFault", spec := "fnExactTightFault", unfollowed := true, recurses := true, plainKeys := false, apart := false, narrowed := true }
def FnExactTightFaultUptoSaid : Prop := fnExactTightFaultUptoRow.holds Tryz.pinned (OpenSpec.upto fnExactTightFaultSpec)

/-- 'laws.FnExactRivalsAt', WHERE WHAT IT READS IS OF BULK AT MOST 1048576: true; the input reads as it did. -/
def fnExactRivalsAtUptoRow : OpenClaim := { program := "ytgoelphibofcmaagreat", sum := "36737eda0b9691f584cd56a314fe4bb74538cddea464b48193a556075fc3dddd", func := "loop.example/g01081/laws.FnExactRivalsAt", spec := "fnExactRivalsAt", unfollowed := true, recurses := true, plainKeys := false, apart := false, narrowed := true }
def FnExactRivalsAtUptoSaid : Prop := fnExactRivalsAtUptoRow.holds Tryz.pinned (OpenSpec.upto fnExactRivalsAtSpec)

/-- 'laws.FnExactGrowInside', WHERE WHAT IT READS IS OF BULK AT MOST 1048576: true; the input reads as it did. -/
def fnExactGrowInsideUptoRow : OpenClaim := { program := "ytgoelphibofcmaagreat", sum := "36737eda0b9691f584cd56a314fe4bb74538cddea464b48193a556075fc3dddd", func := "loop.example/g01081/laws.FnExactGrowInside", spec := "fnExactGrowInside", unfollowed := true, recurses := true, plainKeys := false, apart := false, narrowed := true }
def FnExactGrowInsideUptoSaid : Prop := fnExactGrowInsideUptoRow.holds Tryz.pinned (OpenSpec.upto fnExactGrowInsideSpec)

/-- 'laws.FnExactAttachWeakly', WHERE WHAT IT READS IS OF BULK AT MOST 1048576: true; the input reads as it did. -/
def fnExactAttachWeaklyUptoRow : OpenClaim := { program := "ytgoelphibofcmaagreat", sum := "36737eda0b9691f584cd56a314fe4bb74538cddea464b48193a556075fc3dddd", func := "loop.example/g01081/laws.FnExactAttachWeakly", spec := "fnExactAttachWeakly", inPlace := ["slices.overlaps[loop.example/g01081/impl.Placed]"], unfollowed := true, recurses := true, plainKeys := false, apart := false, narrowed := true }
def FnExactAttachWeaklyUptoSaid : Prop := fnExactAttachWeaklyUptoRow.holds Tryz.pinned (OpenSpec.upto fnExactAttachWeaklySpec)

/-- 'laws.FnExactOptionsOf', WHERE WHAT IT READS IS OF BULK AT MOST 1048576: true; the input reads as it did. -/
def fnExactOptionsOfUptoRow : OpenClaim := { program := "ytgoelphibofcmaagreat", sum := "36737eda0b9691f584cd56a314fe4bb74538cddea464b48193a556075fc3dddd", func := "loop.example/g01081/laws.FnExactOptionsOf", spec := "fnExactOptionsOf", unfollowed := true, recurses := true, plainKeys := false, apart := false, narrowed := true }
def FnExactOptionsOfUptoSaid : Prop := fnExactOptionsOfUptoRow.holds Tryz.pinned (OpenSpec.upto fnExactOptionsOfSpec)

/-- 'laws.FnExactSequenceOf', WHERE WHAT IT READS IS OF BULK AT MOST 1048576: true; the input reads as it did. -/
def fnExactSequenceOfUptoRow : OpenClaim := { program := "ytgoelphibofcmaagreat", sum := "36737eda0b9691f584cd56a314fe4bb74538cddea464b48193a556075fc3dddd", func := "loop.example/g01081/laws.FnExactSequenceOf", spec := "fnExactSequenceOf", unfollowed := true, recurses := true, plainKeys := false, apart := false, narrowed := true }
def FnExactSequenceOfUptoSaid : Prop := fnExactSequenceOfUptoRow.holds Tryz.pinned (OpenSpec.upto fnExactSequenceOfSpec)

/-- 'laws.FnExactWeakOptions', WHERE WHAT IT READS IS OF BULK AT MOST 1048576: true; the input reads as it did. -/
def fnExactWeakOptionsUptoRow : OpenClaim := { program := "ytgoelphibofcmaagreat", sum := "36737eda0b9691f584cd56a314fe4bb74538cddea464b48193a556075fc3dddd", func := "loop.example/g01081/laws.FnExactWeakOptions", spec := "fnExactWeakOptions", unfollowed := true, recurses := true, plainKeys := false, apart := false, narrowed := true }
def FnExactWeakOptionsUptoSaid : Prop := fnExactWeakOptionsUptoRow.holds Tryz.pinned (OpenSpec.upto fnExactWeakOptionsSpec)

/-- 'laws.FnExactInputsOf', WHERE WHAT IT READS IS OF BULK AT MOST 1048576: true; the input reads as it did. -/
def fnExactInputsOfUptoRow : OpenClaim := { program := "ytgoelphibofcmaagreat", sum := "36737eda0b9691f584cd56a314fe4bb74538cddea464b48193a556075fc3dddd", func := "loop.example/g01081/laws.FnExactInputsOf", spec := "fnExactInputsOf", unfollowed := true, recurses := true, plainKeys := false, apart := false, narrowed := true }
def FnExactInputsOfUptoSaid : Prop := fnExactInputsOfUptoRow.holds Tryz.pinned (OpenSpec.upto fnExactInputsOfSpec)

/-- 'laws.FnExactOutputsOf', WHERE WHAT IT READS IS OF BULK AT MOST 1048576: true; the input reads as it did. -/
def fnExactOutputsOfUptoRow : OpenClaim := { program := "ytgoelphibofcmaagreat", sum := "36737eda0b9691f584cd56a314fe4bb74538cddea464b48193a556075fc3dddd", func := "loop.example/g01081/laws.FnExactOutputsOf", spec := "fnExactOutputsOf", unfollowed := true, recurses := true, plainKeys := false, apart := false, narrowed := true }
def FnExactOutputsOfUptoSaid : Prop := fnExactOutputsOfUptoRow.holds Tryz.pinned (OpenSpec.upto fnExactOutputsOfSpec)

end Rows
end Go.Proofs.YtgoelphibofcmaaGreat
