/-
  No cell of these rows narrows 'for every input' (looked for: loops, veiled, ifaces, maps, wideKeys, modest, calm, conditions, laid).
  DERIVED. THE GIVEN ROWS OF THIS SEAT. 10 by the template 'for every input the law returns true; each argument reads behind the call as it read before'; 0 by the template 'total and deterministic' (their statements: YtgoljkjaameagaaGreatTotals.lean).
  GIVEN WITH THE SEED: the statements are not yours to turn. If you find one false, say at which input.
  Laid BY PROGRAM, IN A SANDBOX (cutbox-rows.mjs): the forced cells as the released guide's own fill.sh prints them over the translation ca47a026fdb445ae… (all of the seat's roots in one cut). By AI agents, Wed Nov 11 2026. No macro, syntax, notation, axiom, sorry.
-/
import Derived.Test.YtgoljkjaameagaaGreatChecked
import GoSem.Claim
import GoSem.ClaimJoined
import GoSem.ClaimMapViews
import Derived.JoinedTies
import Derived.KernelRfl
namespace Go.Proofs.YtgoljkjaameagaaGreat
/- THE CELL 'sum', in the pinned program and in every row, IS THE sha256 OF THE DUMP (.gsa) THAT YtgoljkjaameagaaGreatProg.lean LOADS. Nothing in Lean hashes anything: it is a label: what it is worth is what the hold of that sum in a sandbox is worth. -/
noncomputable def Tryz.pinned : Pinned := { name := "ytgoljkjaameagaagreat", sum := "ca47a026fdb445ae2f4a1e90d60575080ab766e437dffd5be85a09d6feaa9a69", checked := Tryz.checked }
namespace Rows
def none {H : Type} : Left H := { results := [], args := [] }

/-- 'laws.FnExactRatesOf': WHATEVER THE INPUT: true; the input reads as it did. -/
def fnExactRatesOfSpec : ChangeSpec := { name := "fnExactRatesOf", fn := fun _ => fun
  | [d1, d2, d3] => { results := [.lit (.bool true)], args := [d1, d2, d3] }
  | _ => none }
def fnExactRatesOfRow : OpenClaim := { program := "ytgoljkjaameagaagreat", sum := "ca47a026fdb445ae2f4a1e90d60575080ab766e437dffd5be85a09d6feaa9a69", func := "loop.example/g01081/laws.FnExactRatesOf", spec := "fnExactRatesOf", unfollowed := true, recurses := true, plainKeys := false, apart := false }
def FnExactRatesOfSaid : Prop := fnExactRatesOfRow.holds Tryz.pinned (OpenSpec.ofChange fnExactRatesOfSpec)

/-- ITS FALSE NEIGHBOUR: 'it returns false'. Refute it at one input. -/
def fnExactRatesOfWrong : ChangeSpec := { name := "fnExactRatesOf", fn := fun _ => fun
  | [d1, d2, d3] => { results := [.lit (.bool false)], args := [d1, d2, d3] }
  | _ => none }
def FnExactRatesOfWrongFalsely : Prop := fnExactRatesOfRow.holds Tryz.pinned (OpenSpec.ofChange fnExactRatesOfWrong)

/-- 'laws.FnExactStepTime': WHATEVER THE INPUT: true; the input reads as it did. -/
def fnExactStepTimeSpec : ChangeSpec := { name := "fnExactStepTime", fn := fun _ => fun
  | [d1, d2, d3] => { results := [.lit (.bool true)], args := [d1, d2, d3] }
  | _ => none }
def fnExactStepTimeRow : OpenClaim := { program := "ytgoljkjaameagaagreat", sum := "ca47a026fdb445ae2f4a1e90d60575080ab766e437dffd5be85a09d6feaa9a69", func := "loop.example/g01081/laws.FnExactStepTime", spec := "fnExactStepTime", unfollowed := true, recurses := true, plainKeys := false, apart := false }
def FnExactStepTimeSaid : Prop := fnExactStepTimeRow.holds Tryz.pinned (OpenSpec.ofChange fnExactStepTimeSpec)

/-- ITS FALSE NEIGHBOUR: 'it returns false'. Refute it at one input. -/
def fnExactStepTimeWrong : ChangeSpec := { name := "fnExactStepTime", fn := fun _ => fun
  | [d1, d2, d3] => { results := [.lit (.bool false)], args := [d1, d2, d3] }
  | _ => none }
def FnExactStepTimeWrongFalsely : Prop := fnExactStepTimeRow.holds Tryz.pinned (OpenSpec.ofChange fnExactStepTimeWrong)

/-- 'laws.FnExactProveGrown': WHATEVER THE INPUT: true; the input reads as it did. -/
def fnExactProveGrownSpec : ChangeSpec := { name := "fnExactProveGrown", fn := fun _ => fun
  | [d1, d2] => { results := [.lit (.bool true)], args := [d1, d2] }
  | _ => none }
def fnExactProveGrownRow : OpenClaim := { program := "ytgoljkjaameagaagreat", sum := "ca47a026fdb445ae2f4a1e90d60575080ab766e437dffd5be85a09d6feaa9a69", func := "loop.example/g01081/laws.FnExactProveGrown", spec := "fnExactProveGrown", unfollowed := true, recurses := true, plainKeys := false, apart := false }
def FnExactProveGrownSaid : Prop := fnExactProveGrownRow.holds Tryz.pinned (OpenSpec.ofChange fnExactProveGrownSpec)

/-- ITS FALSE NEIGHBOUR: 'it returns false'. Refute it at one input. -/
def fnExactProveGrownWrong : ChangeSpec := { name := "fnExactProveGrown", fn := fun _ => fun
  | [d1, d2] => { results := [.lit (.bool false)], args := [d1, d2] }
  | _ => none }
def FnExactProveGrownWrongFalsely : Prop := fnExactProveGrownRow.holds Tryz.pinned (OpenSpec.ofChange fnExactProveGrownWrong)

/-- 'laws.FnExactStepChances': WHATEVER THE INPUT: true; the input reads as it did. -/
def fnExactStepChancesSpec : ChangeSpec := { name := "fnExactStepChances", fn := fun _ => fun
  | [d1, d2] => { results := [.lit (.bool true)], args := [d1, d2] }
  | _ => none }
def fnExactStepChancesRow : OpenClaim := { program := "ytgoljkjaameagaagreat", sum := "ca47a026fdb445ae2f4a1e90d60575080ab766e437dffd5be85a09d6feaa9a69", func := "loop.example/g01081/laws.FnExactStepChances", spec := "fnExactStepChances", inPlace := ["slices.overlaps[loop.example/g01081/impl.Placed]"], unfollowed := true, recurses := true, plainKeys := false, apart := false }
def FnExactStepChancesSaid : Prop := fnExactStepChancesRow.holds Tryz.pinned (OpenSpec.ofChange fnExactStepChancesSpec)

/-- ITS FALSE NEIGHBOUR: 'it returns false'. Refute it at one input. -/
def fnExactStepChancesWrong : ChangeSpec := { name := "fnExactStepChances", fn := fun _ => fun
  | [d1, d2] => { results := [.lit (.bool false)], args := [d1, d2] }
  | _ => none }
def FnExactStepChancesWrongFalsely : Prop := fnExactStepChancesRow.holds Tryz.pinned (OpenSpec.ofChange fnExactStepChancesWrong)

/-- 'laws.FnExactGrowRounds': WHATEVER THE INPUT: true; the input reads as it did. -/
def fnExactGrowRoundsSpec : ChangeSpec := { name := "fnExactGrowRounds", fn := fun _ => fun
  | [d1, d2] => { results := [.lit (.bool true)], args := [d1, d2] }
  | _ => none }
def fnExactGrowRoundsRow : OpenClaim := { program := "ytgoljkjaameagaagreat", sum := "ca47a026fdb445ae2f4a1e90d60575080ab766e437dffd5be85a09d6feaa9a69", func := "loop.example/g01081/laws.FnExactGrowRounds", spec := "fnExactGrowRounds", unfollowed := true, recurses := true, plainKeys := false, apart := false }
def FnExactGrowRoundsSaid : Prop := fnExactGrowRoundsRow.holds Tryz.pinned (OpenSpec.ofChange fnExactGrowRoundsSpec)

/-- ITS FALSE NEIGHBOUR: 'it returns false'. Refute it at one input. -/
def fnExactGrowRoundsWrong : ChangeSpec := { name := "fnExactGrowRounds", fn := fun _ => fun
  | [d1, d2] => { results := [.lit (.bool false)], args := [d1, d2] }
  | _ => none }
def FnExactGrowRoundsWrongFalsely : Prop := fnExactGrowRoundsRow.holds Tryz.pinned (OpenSpec.ofChange fnExactGrowRoundsWrong)

/-- 'laws.FnExactRestoreSequence': WHATEVER THE INPUT: true; the input reads as it did. -/
def fnExactRestoreSequenceSpec : ChangeSpec := { name := "fnExactRestoreSequence", fn := fun _ => fun
  | [d1, d2, d3] => { results := [.lit (.bool true)], args := [d1, d2, d3] }
  | _ => none }
def fnExactRestoreSequenceRow : OpenClaim := { program := "ytgoljkjaameagaagreat", sum := "ca47a026fdb445ae2f4a1e90d60575080ab766e437dffd5be85a09d6feaa9a69", func := "loop.example/g01081/laws.FnExactRestoreSequence", spec := "fnExactRestoreSequence", unfollowed := true, recurses := true, plainKeys := false, apart := false }
def FnExactRestoreSequenceSaid : Prop := fnExactRestoreSequenceRow.holds Tryz.pinned (OpenSpec.ofChange fnExactRestoreSequenceSpec)

/-- ITS FALSE NEIGHBOUR: 'it returns false'. Refute it at one input. -/
def fnExactRestoreSequenceWrong : ChangeSpec := { name := "fnExactRestoreSequence", fn := fun _ => fun
  | [d1, d2, d3] => { results := [.lit (.bool false)], args := [d1, d2, d3] }
  | _ => none }
def FnExactRestoreSequenceWrongFalsely : Prop := fnExactRestoreSequenceRow.holds Tryz.pinned (OpenSpec.ofChange fnExactRestoreSequenceWrong)

/-- 'laws.FnExactRepairCost': WHATEVER THE INPUT: true; the input reads as it did. -/
def fnExactRepairCostSpec : ChangeSpec := { name := "fnExactRepairCost", fn := fun _ => fun
  | [d1, d2, d3, d4] => { results := [.lit (.bool true)], args := [d1, d2, d3, d4] }
  | _ => none }
def fnExactRepairCostRow : OpenClaim := { program := "ytgoljkjaameagaagreat", sum := "ca47a026fdb445ae2f4a1e90d60575080ab766e437dffd5be85a09d6feaa9a69", func := "loop.example/g01081/laws.FnExactRepairCost", spec := "fnExactRepairCost", unfollowed := true, recurses := true, plainKeys := false, apart := false }
def FnExactRepairCostSaid : Prop := fnExactRepairCostRow.holds Tryz.pinned (OpenSpec.ofChange fnExactRepairCostSpec)

/-- ITS FALSE NEIGHBOUR: 'it returns false'. Refute it at one input. -/
def fnExactRepairCostWrong : ChangeSpec := { name := "fnExactRepairCost", fn := fun _ => fun
  | [d1, d2, d3, d4] => { results := [.lit (.bool false)], args := [d1, d2, d3, d4] }
  | _ => none }
def FnExactRepairCostWrongFalsely : Prop := fnExactRepairCostRow.holds Tryz.pinned (OpenSpec.ofChange fnExactRepairCostWrong)

/-- 'laws.FnExactRelax': WHATEVER THE INPUT: true; the input reads as it did. -/
def fnExactRelaxSpec : ChangeSpec := { name := "fnExactRelax", fn := fun _ => fun
  | [d1, d2] => { results := [.lit (.bool true)], args := [d1, d2] }
  | _ => none }
def fnExactRelaxRow : OpenClaim := { program := "ytgoljkjaameagaagreat", sum := "ca47a026fdb445ae2f4a1e90d60575080ab766e437dffd5be85a09d6feaa9a69", func := "loop.example/g01081/laws.FnExactRelax", spec := "fnExactRelax", unfollowed := true, recurses := true, plainKeys := false, apart := false }
def FnExactRelaxSaid : Prop := fnExactRelaxRow.holds Tryz.pinned (OpenSpec.ofChange fnExactRelaxSpec)

/-- ITS FALSE NEIGHBOUR: 'it returns false'. Refute it at one input. -/
def fnExactRelaxWrong : ChangeSpec := { name := "fnExactRelax", fn := fun _ => fun
  | [d1, d2] => { results := [.lit (.bool false)], args := [d1, d2] }
  | _ => none }
def FnExactRelaxWrongFalsely : Prop := fnExactRelaxRow.holds Tryz.pinned (OpenSpec.ofChange fnExactRelaxWrong)

/-- 'laws.FnExactBreakApart': WHATEVER THE INPUT: true; the input reads as it did. -/
def fnExactBreakApartSpec : ChangeSpec := { name := "fnExactBreakApart", fn := fun _ => fun
  | [d1, d2, d3] => { results := [.lit (.bool true)], args := [d1, d2, d3] }
  | _ => none }
def fnExactBreakApartRow : OpenClaim := { program := "ytgoljkjaameagaagreat", sum := "ca47a026fdb445ae2f4a1e90d60575080ab766e437dffd5be85a09d6feaa9a69", func := "loop.example/g01081/laws.FnExactBreakApart", spec := "fnExactBreakApart", unfollowed := true, recurses := true, plainKeys := false, apart := false }
def FnExactBreakApartSaid : Prop := fnExactBreakApartRow.holds Tryz.pinned (OpenSpec.ofChange fnExactBreakApartSpec)

/-- ITS FALSE NEIGHBOUR: 'it returns false'. Refute it at one input. -/
def fnExactBreakApartWrong : ChangeSpec := { name := "fnExactBreakApart", fn := fun _ => fun
  | [d1, d2, d3] => { results := [.lit (.bool false)], args := [d1, d2, d3] }
  | _ => none }
def FnExactBreakApartWrongFalsely : Prop := fnExactBreakApartRow.holds Tryz.pinned (OpenSpec.ofChange fnExactBreakApartWrong)

/-- 'laws.FnExactRepresent': WHATEVER THE INPUT: true; the input reads as it did. -/
def fnExactRepresentSpec : ChangeSpec := { name := "fnExactRepresent", fn := fun _ => fun
  | [d1, d2] => { results := [.lit (.bool true)], args := [d1, d2] }
  | _ => none }
def fnExactRepresentRow : OpenClaim := { program := "ytgoljkjaameagaagreat", sum := "ca47a026fdb445ae2f4a1e90d60575080ab766e437dffd5be85a09d6feaa9a69", func := "loop.example/g01081/laws.FnExactRepresent", spec := "fnExactRepresent", unfollowed := true, recurses := true, plainKeys := false, apart := false }
def FnExactRepresentSaid : Prop := fnExactRepresentRow.holds Tryz.pinned (OpenSpec.ofChange fnExactRepresentSpec)

/-- ITS FALSE NEIGHBOUR: 'it returns false'. Refute it at one input. -/
def fnExactRepresentWrong : ChangeSpec := { name := "fnExactRepresent", fn := fun _ => fun
  | [d1, d2] => { results := [.lit (.bool false)], args := [d1, d2] }
  | _ => none }
def FnExactRepresentWrongFalsely : Prop := fnExactRepresentRow.holds Tryz.pinned (OpenSpec.ofChange fnExactRepresentWrong)

/- THE SECOND FORM. 'bulk': how many values and letters a reading holds, each counted each time it is reached (what is shared counts as often as it is met; a slice's spare places count too). A statement '..UptoSaid' is the law's where the arguments, and the package variables that the reading takes, are together of bulk at most 1048576: NARROWER than '..Said'. Prove '..Said' where nothing that the law and all that it calls make is longer than what came in: it says more and counts as full. Else prove '..UptoSaid'. A law counts once. -/
mutual
def uptoBulk {H : Type} : DataW H → Nat
  | .lit (.string bytes) => bytes.length + 1
  | .lit _ => 1
  | .nil => 1
  | .ptr d => uptoBulk d + 1
  | .slice elems spare => uptoBulkAll elems + uptoBulkAll spare + 1
  | .agg parts => uptoBulkAll parts + 1
  | .iface _ d => uptoBulk d + 1
  | .map entries => uptoBulkEntries entries + 1
  | .held _ => 1
def uptoBulkAll {H : Type} : List (DataW H) → Nat
  | [] => 0
  | d :: r => uptoBulk d + uptoBulkAll r
def uptoBulkEntries {H : Type} : List (Lit × DataW H) → Nat
  | [] => 0
  | x :: r => uptoBulkEntry x + uptoBulkEntries r
def uptoBulkEntry {H : Type} : Lit × DataW H → Nat
  | (.string bytes, d) => bytes.length + uptoBulk d + 1
  | (_, d) => uptoBulk d + 1
 end
def uptoSmall : (H : Type) → List (DataW H) → Bool := fun _ ds => decide (uptoBulkAll ds ≤ 1048576)
def OpenSpec.upto (s : _root_.Go.ChangeSpec) : _root_.Go.OpenSpec := { _root_.Go.OpenSpec.ofChange s with cond := some uptoSmall }

/-- 'laws.FnExactRatesOf', WHERE WHAT IT READS IS OF BULK AT MOST 1048576: true; the input reads as it did. -/
def fnExactRatesOfUptoRow : OpenClaim := { program := "ytgoljkjaameagaagreat", sum := "ca47a026fdb445ae2f4a1e90d60575080ab766e437dffd5be85a09d6feaa9a69", func := "loop.example/g01081/laws.FnExactRatesOf", spec := "fnExactRatesOf", unfollowed := true, recurses := true, plainKeys := false, apart := false, narrowed := true }
def FnExactRatesOfUptoSaid : Prop := fnExactRatesOfUptoRow.holds Tryz.pinned (OpenSpec.upto fnExactRatesOfSpec)

/-- 'laws.FnExactStepTime', WHERE WHAT IT READS IS OF BULK AT MOST 1048576: true; the input reads as it did. -/
def fnExactStepTimeUptoRow : OpenClaim := { program := "ytgoljkjaameagaagreat", sum := "ca47a026fdb445ae2f4a1e90d60575080ab766e437dffd5be85a09d6feaa9a69", func := "loop.example/g01081/laws.FnExactStepTime", spec := "fnExactStepTime", unfollowed := true, recurses := true, plainKeys := false, apart := false, narrowed := true }
def FnExactStepTimeUptoSaid : Prop := fnExactStepTimeUptoRow.holds Tryz.pinned (OpenSpec.upto fnExactStepTimeSpec)

/-- 'laws.FnExactProveGrown', WHERE WHAT IT READS IS OF BULK AT MOST 1048576: true; the input reads as it did. -/
def fnExactProveGrownUptoRow : OpenClaim := { program := "ytgoljkjaameagaagreat", sum := "ca47a026fdb445ae2f4a1e90d60575080ab766e437dffd5be85a09d6feaa9a69", func := "loop.example/g01081/laws.FnExactProveGrown", spec := "fnExactProveGrown", unfollowed := true, recurses := true, plainKeys := false, apart := false, narrowed := true }
def FnExactProveGrownUptoSaid : Prop := fnExactProveGrownUptoRow.holds Tryz.pinned (OpenSpec.upto fnExactProveGrownSpec)

/-- 'laws.FnExactStepChances', WHERE WHAT IT READS IS OF BULK AT MOST 1048576: true; the input reads as it did. -/
def fnExactStepChancesUptoRow : OpenClaim := { program := "ytgoljkjaameagaagreat", sum := "ca47a026fdb445ae2f4a1e90d60575080ab766e437dffd5be85a09d6feaa9a69", func := "loop.example/g01081/laws.FnExactStepChances", spec := "fnExactStepChances", inPlace := ["slices.overlaps[loop.example/g01081/impl.Placed]"], unfollowed := true, recurses := true, plainKeys := false, apart := false, narrowed := true }
def FnExactStepChancesUptoSaid : Prop := fnExactStepChancesUptoRow.holds Tryz.pinned (OpenSpec.upto fnExactStepChancesSpec)

/-- 'laws.FnExactGrowRounds', WHERE WHAT IT READS IS OF BULK AT MOST 1048576: true; the input reads as it did. -/
def fnExactGrowRoundsUptoRow : OpenClaim := { program := "ytgoljkjaameagaagreat", sum := "ca47a026fdb445ae2f4a1e90d60575080ab766e437dffd5be85a09d6feaa9a69", func := "loop.example/g01081/laws.FnExactGrowRounds", spec := "fnExactGrowRounds", unfollowed := true, recurses := true, plainKeys := false, apart := false, narrowed := true }
def FnExactGrowRoundsUptoSaid : Prop := fnExactGrowRoundsUptoRow.holds Tryz.pinned (OpenSpec.upto fnExactGrowRoundsSpec)

/-- 'laws.FnExactRestoreSequence', WHERE WHAT IT READS IS OF BULK AT MOST 1048576: true; the input reads as it did. -/
def fnExactRestoreSequenceUptoRow : OpenClaim := { program := "ytgoljkjaameagaagreat", sum := "ca47a026fdb445ae2f4a1e90d60575080ab766e437dffd5be85a09d6feaa9a69", func := "loop.example/g01081/laws.FnExactRestoreSequence", spec := "fnExactRestoreSequence", unfollowed := true, recurses := true, plainKeys := false, apart := false, narrowed := true }
def FnExactRestoreSequenceUptoSaid : Prop := fnExactRestoreSequenceUptoRow.holds Tryz.pinned (OpenSpec.upto fnExactRestoreSequenceSpec)

/-- 'laws.FnExactRepairCost', WHERE WHAT IT READS IS OF BULK AT MOST 1048576: true; the input reads as it did. -/
def fnExactRepairCostUptoRow : OpenClaim := { program := "ytgoljkjaameagaagreat", sum := "ca47a026fdb445ae2f4a1e90d60575080ab766e437dffd5be85a09d6feaa9a69", func := "loop.example/g01081/laws.FnExactRepairCost", spec := "fnExactRepairCost", unfollowed := true, recurses := true, plainKeys := false, apart := false, narrowed := true }
def FnExactRepairCostUptoSaid : Prop := fnExactRepairCostUptoRow.holds Tryz.pinned (OpenSpec.upto fnExactRepairCostSpec)

/-- 'laws.FnExactRelax', WHERE WHAT IT READS IS OF BULK AT MOST 1048576: true; the input reads as it did. -/
def fnExactRelaxUptoRow : OpenClaim := { program := "ytgoljkjaameagaagreat", sum := "ca47a026fdb445ae2f4a1e90d60575080ab766e437dffd5be85a09d6feaa9a69", func := "loop.example/g01081/laws.FnExactRelax", spec := "fnExactRelax", unfollowed := true, recurses := true, plainKeys := false, apart := false, narrowed := true }
def FnExactRelaxUptoSaid : Prop := fnExactRelaxUptoRow.holds Tryz.pinned (OpenSpec.upto fnExactRelaxSpec)

/-- 'laws.FnExactBreakApart', WHERE WHAT IT READS IS OF BULK AT MOST 1048576: true; the input reads as it did. -/
def fnExactBreakApartUptoRow : OpenClaim := { program := "ytgoljkjaameagaagreat", sum := "ca47a026fdb445ae2f4a1e90d60575080ab766e437dffd5be85a09d6feaa9a69", func := "loop.example/g01081/laws.FnExactBreakApart", spec := "fnExactBreakApart", unfollowed := true, recurses := true, plainKeys := false, apart := false, narrowed := true }
def FnExactBreakApartUptoSaid : Prop := fnExactBreakApartUptoRow.holds Tryz.pinned (OpenSpec.upto fnExactBreakApartSpec)

/-- 'laws.FnExactRepresent', WHERE WHAT IT READS IS OF BULK AT MOST 1048576: true; the input reads as it did. -/
def fnExactRepresentUptoRow : OpenClaim := { program := "ytgoljkjaameagaagreat", sum := "ca47a026fdb445ae2f4a1e90d60575080ab766e437dffd5be85a09d6feaa9a69", func := "loop.example/g01081/laws.FnExactRepresent", spec := "fnExactRepresent", unfollowed := true, recurses := true, plainKeys := false, apart := false, narrowed := true }
def FnExactRepresentUptoSaid : Prop := fnExactRepresentUptoRow.holds Tryz.pinned (OpenSpec.upto fnExactRepresentSpec)

end Rows
end Go.Proofs.YtgoljkjaameagaaGreat
