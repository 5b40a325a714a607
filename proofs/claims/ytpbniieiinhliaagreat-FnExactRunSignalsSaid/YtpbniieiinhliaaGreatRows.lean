/-
  No cell of these rows narrows 'for every input' (looked for: loops, veiled, ifaces, maps, wideKeys, modest, calm, conditions, laid).
  DERIVED. THE GIVEN ROWS OF THIS SEAT. 3 by the template 'for every input the law returns true; each argument reads behind the call as it read before'; 0 by the template 'total and deterministic' (their statements: YtpbniieiinhliaaGreatTotals.lean).
  GIVEN WITH THE SEED: the statements are not yours to turn. If you find one false, say at which input.
  Laid BY PROGRAM, IN A SANDBOX (cutbox-rows.mjs): the forced cells as the released guide's own fill.sh prints them over the translation 8d585840eb6c0580… (all of the seat's roots in one cut). By AI agents, Wed Nov 11 2026. No macro, syntax, notation, axiom, sorry.
-/
import Derived.Test.YtpbniieiinhliaaGreatChecked
import GoSem.Claim
import GoSem.ClaimJoined
import GoSem.ClaimMapViews
import Derived.JoinedTies
import Derived.KernelRfl
namespace Go.Proofs.YtpbniieiinhliaaGreat
/- THE CELL 'sum', in the pinned program and in every row, IS THE sha256 OF THE DUMP (.gsa) THAT YtpbniieiinhliaaGreatProg.lean LOADS. Nothing in Lean hashes anything: it is a label: what it is worth is what the hold of that sum in a sandbox is worth. -/
noncomputable def Tryz.pinned : Pinned := { name := "ytpbniieiinhliaagreat", sum := "8d585840eb6c05801cb7dbe43779b942cf57d77e24bba5a9c3090e83dc5d94a8", checked := Tryz.checked }
namespace Rows
def none {H : Type} : Left H := { results := [], args := [] }

/-- 'laws.FnExactEventsOf': WHATEVER THE INPUT: true; the input reads as it did. -/
def fnExactEventsOfSpec : ChangeSpec := { name := "fnExactEventsOf", fn := fun _ => fun
  | [d1, d2, d3] => { results := [.lit (.bool true)], args := [d1, d2, d3] }
  | _ => none }
def fnExactEventsOfRow : OpenClaim := { program := "ytpbniieiinhliaagreat", sum := "8d585840eb6c05801cb7dbe43779b942cf57d77e24bba5a9c3090e83dc5d94a8", func := "loop.example/g01081/laws.FnExactEventsOf", spec := "fnExactEventsOf", unfollowed := true, recurses := true, apart := false }
def FnExactEventsOfSaid : Prop := fnExactEventsOfRow.holds Tryz.pinned (OpenSpec.ofChange fnExactEventsOfSpec)

/-- ITS FALSE NEIGHBOUR: 'it returns false'. Refute it at one input. -/
def fnExactEventsOfWrong : ChangeSpec := { name := "fnExactEventsOf", fn := fun _ => fun
  | [d1, d2, d3] => { results := [.lit (.bool false)], args := [d1, d2, d3] }
  | _ => none }
def FnExactEventsOfWrongFalsely : Prop := fnExactEventsOfRow.holds Tryz.pinned (OpenSpec.ofChange fnExactEventsOfWrong)

/-- 'laws.FnExactPlayEvent': WHATEVER THE INPUT: true; the input reads as it did. -/
def fnExactPlayEventSpec : ChangeSpec := { name := "fnExactPlayEvent", fn := fun _ => fun
  | [d1, d2, d3, d4] => { results := [.lit (.bool true)], args := [d1, d2, d3, d4] }
  | _ => none }
def fnExactPlayEventRow : OpenClaim := { program := "ytpbniieiinhliaagreat", sum := "8d585840eb6c05801cb7dbe43779b942cf57d77e24bba5a9c3090e83dc5d94a8", func := "loop.example/g01081/laws.FnExactPlayEvent", spec := "fnExactPlayEvent", inPlace := ["slices.overlaps[loop.example/g01081/impl.SignalCell]"], unfollowed := true, recurses := true, apart := false }
def FnExactPlayEventSaid : Prop := fnExactPlayEventRow.holds Tryz.pinned (OpenSpec.ofChange fnExactPlayEventSpec)

/-- ITS FALSE NEIGHBOUR: 'it returns false'. Refute it at one input. -/
def fnExactPlayEventWrong : ChangeSpec := { name := "fnExactPlayEvent", fn := fun _ => fun
  | [d1, d2, d3, d4] => { results := [.lit (.bool false)], args := [d1, d2, d3, d4] }
  | _ => none }
def FnExactPlayEventWrongFalsely : Prop := fnExactPlayEventRow.holds Tryz.pinned (OpenSpec.ofChange fnExactPlayEventWrong)

/-- 'laws.FnExactRunSignals': WHATEVER THE INPUT: true; the input reads as it did. -/
def fnExactRunSignalsSpec : ChangeSpec := { name := "fnExactRunSignals", fn := fun _ => fun
  | [d1, d2, d3, d4, d5] => { results := [.lit (.bool true)], args := [d1, d2, d3, d4, d5] }
  | _ => none }
def fnExactRunSignalsRow : OpenClaim := { program := "ytpbniieiinhliaagreat", sum := "8d585840eb6c05801cb7dbe43779b942cf57d77e24bba5a9c3090e83dc5d94a8", func := "loop.example/g01081/laws.FnExactRunSignals", spec := "fnExactRunSignals", inPlace := ["slices.overlaps[loop.example/g01081/impl.SignalCell]"], unfollowed := true, recurses := true, apart := false }
def FnExactRunSignalsSaid : Prop := fnExactRunSignalsRow.holds Tryz.pinned (OpenSpec.ofChange fnExactRunSignalsSpec)

/-- ITS FALSE NEIGHBOUR: 'it returns false'. Refute it at one input. -/
def fnExactRunSignalsWrong : ChangeSpec := { name := "fnExactRunSignals", fn := fun _ => fun
  | [d1, d2, d3, d4, d5] => { results := [.lit (.bool false)], args := [d1, d2, d3, d4, d5] }
  | _ => none }
def FnExactRunSignalsWrongFalsely : Prop := fnExactRunSignalsRow.holds Tryz.pinned (OpenSpec.ofChange fnExactRunSignalsWrong)

/- THE SECOND FORM. 'bulk': how many values and letters a reading holds, each counted each time it is reached (what is shared counts as often as it is met; a slice's spare places count too). A statement '..UptoSaid' is the law's where the arguments, and the package variables that the reading takes, are together of bulk at most 1048576: NARROWER than '..Said'. Prove '..Said' where nothing that the law and all that it calls make is longer than what came in: it says more and counts as full. Else prove '..UptoSaid'. A law counts once. -/
mutual
def uptoBulk {H : Type} : DataW H → Nat
  | .lit (.string bytes) => bytes.length + 1
  | .lit _ => 1
  | .nil => 1
  | .ptr d => uptoBulk d + 1
  | .slice elems spare => uptoBulkAll elems + uptoBulkAll spare + 1
  | .agg parts => uptoBulkAll parts + 1
  | .iface _ d => uptoBulk d + 1
  | .map entries => uptoBulkEntries entries + 1
  | .held _ => 1
def uptoBulkAll {H : Type} : List (DataW H) → Nat
  | [] => 0
  | d :: r => uptoBulk d + uptoBulkAll r
def uptoBulkEntries {H : Type} : List (Lit × DataW H) → Nat
  | [] => 0
  | x :: r => uptoBulkEntry x + uptoBulkEntries r
def uptoBulkEntry {H : Type} : Lit × DataW H → Nat
  | (.string bytes, d) => bytes.length + uptoBulk d + 1
  | (_, d) => uptoBulk d + 1
 end
def uptoSmall : (H : Type) → List (DataW H) → Bool := fun _ ds => decide (uptoBulkAll ds ≤ 1048576)
def OpenSpec.upto (s : _root_.Go.ChangeSpec) : _root_.Go.OpenSpec := { _root_.Go.OpenSpec.ofChange s with cond := some uptoSmall }

/-- 'laws.FnExactEventsOf', WHERE WHAT IT READS IS OF BULK AT MOST 1048576: true; the input reads as it did. -/
def fnExactEventsOfUptoRow : OpenClaim := { program := "ytpbniieiinhliaagreat", sum := "8d585840eb6c05801cb7dbe43779b942cf57d77e24bba5a9c3090e83dc5d94a8", func := "loop.example/g01081/laws.FnExactEventsOf", spec := "fnExactEventsOf", unfollowed := true, recurses := true, apart := false, narrowed := true }
def FnExactEventsOfUptoSaid : Prop := fnExactEventsOfUptoRow.holds Tryz.pinned (OpenSpec.upto fnExactEventsOfSpec)

/-- 'laws.FnExactPlayEvent', WHERE WHAT IT READS IS OF BULK AT MOST 1048576: true; the input reads as it did. -/
def fnExactPlayEventUptoRow : OpenClaim := { program := "ytpbniieiinhliaagreat", sum := "8d585840eb6c05801cb7dbe43779b942cf57d77e24bba5a9c3090e83dc5d94a8", func := "loop.example/g01081/laws.FnExactPlayEvent", spec := "fnExactPlayEvent", inPlace := ["slices.overlaps[loop.example/g01081/impl.SignalCell]"], unfollowed := true, recurses := true, apart := false, narrowed := true }
def FnExactPlayEventUptoSaid : Prop := fnExactPlayEventUptoRow.holds Tryz.pinned (OpenSpec.upto fnExactPlayEventSpec)

/-- 'laws.FnExactRunSignals', WHERE WHAT IT READS IS OF BULK AT MOST 1048576: true; the input reads as it did. -/
def fnExactRunSignalsUptoRow : OpenClaim := { program := "ytpbniieiinhliaagreat", sum := "8d585840eb6c05801cb7dbe43779b942cf57d77e24bba5a9c3090e83dc5d94a8", func := "loop.example/g01081/laws.FnExactRunSignals", spec := "fnExactRunSignals", inPlace := ["slices.overlaps[loop.example/g01081/impl.SignalCell]"], unfollowed := true, recurses := true, apart := false, narrowed := true }
def FnExactRunSignalsUptoSaid : Prop := fnExactRunSignalsUptoRow.holds Tryz.pinned (OpenSpec.upto fnExactRunSignalsSpec)

end Rows
end Go.Proofs.YtpbniieiinhliaaGreat
