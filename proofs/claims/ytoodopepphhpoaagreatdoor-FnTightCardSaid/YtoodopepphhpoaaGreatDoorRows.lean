/-
  NARROWER THAN 'FOR EVERY INPUT', by the rows' own cells (each row's printed sentence says how): FnTight: ifaces, laid · FnTurnedGrowth: ifaces, laid.
  DERIVED. THE GIVEN ROWS OF THIS SEAT. 2 by the template 'for every input the law returns true; each argument reads behind the call as it read before'; 0 by the template 'total and deterministic' (their statements: YtoodopepphhpoaaGreatDoorTotals.lean).
  GIVEN WITH THE SEED: the statements are not yours to turn. If you find one false, say at which input.
  Laid BY PROGRAM, IN A SANDBOX (cutbox-rows.mjs): the forced cells as the released guide's own fill.sh prints them over the translation d564b71eb6f7c91b… (all of the seat's roots in one cut). By AI agents, Wed Nov 11 2026. No macro, syntax, notation, axiom, sorry.
-/
import Derived.Test.YtoodopepphhpoaaGreatDoorChecked
import GoSem.Claim
import GoSem.ClaimJoined
import GoSem.ClaimMapViews
import Derived.JoinedTies
import Derived.KernelRfl
namespace Go.Proofs.YtoodopepphhpoaaGreatDoor
/- THE CELL 'sum', in the pinned program and in every row, IS THE sha256 OF THE DUMP (.gsa) THAT YtoodopepphhpoaaGreatDoorProg.lean LOADS. Nothing in Lean hashes anything: it is a label: what it is worth is what the hold of that sum in a sandbox is worth. -/
noncomputable def Tryz.pinned : Pinned := { name := "ytoodopepphhpoaagreatdoor", sum := "d564b71eb6f7c91bd69699e1aca6c0ca4f902834813034fd330020d1a7673ce3", checked := Tryz.checked }
namespace Rows
def none {H : Type} : Left H := { results := [], args := [] }

/- WHAT THE LISTED PACKAGE-LEVEL VARIABLES READ AS WHEN THE CALL BEGINS. Each datum BY PROGRAM (the guide's laid-datum.mjs) off the statement by which the dump's own 'gosem.cut.vars' lays the variable. In a bare row this is a premise. The card (YtoodopepphhpoaaGreatDoorCards.lean) ties it to the program's text. -/
def laid_loop_example_g01081_impl_errTerminal {H : Type} : DataW H := .iface "*errors.errorString" (.ptr (.agg [.lit (.string [110, 111, 32, 116, 105, 108, 101, 32, 99, 97, 110, 32, 97, 116, 116, 97, 99, 104])]))
def laid_loop_example_g01081_impl_errNoSpace {H : Type} : DataW H := .iface "*errors.errorString" (.ptr (.agg [.lit (.string [116, 111, 111, 32, 109, 97, 110, 121, 32, 116, 105, 108, 101, 115])]))

/-- 'laws.FnTight': WHATEVER THE INPUT: true; the input reads as it did. -/
def fnTightSpec : ChangeSpec := { name := "fnTight", vars := ["loop.example/g01081/impl.errTerminal", "loop.example/g01081/impl.errNoSpace"], fn := fun _ => fun
  | [d1, d2, g1, g2] => { results := [.lit (.bool true)], args := [d1, d2], vars := [g1, g2] }
  | _ => none }
def fnTightRow : OpenClaim := { program := "ytoodopepphhpoaagreatdoor", sum := "d564b71eb6f7c91bd69699e1aca6c0ca4f902834813034fd330020d1a7673ce3", func := "loop.example/g01081/laws.FnTight", spec := "fnTight", inPlace := ["internal/reflectlite.TypeOf"], unfollowed := true, recurses := true, named := ["loop.example/g01081/impl.errTerminal", "loop.example/g01081/impl.errNoSpace"], ifaces := true, plainKeys := false, apart := false, laid := [("loop.example/g01081/impl.errTerminal", laid_loop_example_g01081_impl_errTerminal), ("loop.example/g01081/impl.errNoSpace", laid_loop_example_g01081_impl_errNoSpace)] }
def FnTightSaid : Prop := fnTightRow.holds Tryz.pinned (OpenSpec.ofChange fnTightSpec)

/-- ITS FALSE NEIGHBOUR: 'it returns false'. Refute it at one input. -/
def fnTightWrong : ChangeSpec := { name := "fnTight", vars := ["loop.example/g01081/impl.errTerminal", "loop.example/g01081/impl.errNoSpace"], fn := fun _ => fun
  | [d1, d2, g1, g2] => { results := [.lit (.bool false)], args := [d1, d2], vars := [g1, g2] }
  | _ => none }
def FnTightWrongFalsely : Prop := fnTightRow.holds Tryz.pinned (OpenSpec.ofChange fnTightWrong)

/-- 'laws.FnTurnedGrowth': WHATEVER THE INPUT: true; the input reads as it did. -/
def fnTurnedGrowthSpec : ChangeSpec := { name := "fnTurnedGrowth", vars := ["loop.example/g01081/impl.errTerminal", "loop.example/g01081/impl.errNoSpace"], fn := fun _ => fun
  | [d, g1, g2] => { results := [.lit (.bool true)], args := [d], vars := [g1, g2] }
  | _ => none }
def fnTurnedGrowthRow : OpenClaim := { program := "ytoodopepphhpoaagreatdoor", sum := "d564b71eb6f7c91bd69699e1aca6c0ca4f902834813034fd330020d1a7673ce3", func := "loop.example/g01081/laws.FnTurnedGrowth", spec := "fnTurnedGrowth", inPlace := ["internal/reflectlite.TypeOf"], unfollowed := true, recurses := true, named := ["loop.example/g01081/impl.errTerminal", "loop.example/g01081/impl.errNoSpace"], ifaces := true, plainKeys := false, apart := false, laid := [("loop.example/g01081/impl.errTerminal", laid_loop_example_g01081_impl_errTerminal), ("loop.example/g01081/impl.errNoSpace", laid_loop_example_g01081_impl_errNoSpace)] }
def FnTurnedGrowthSaid : Prop := fnTurnedGrowthRow.holds Tryz.pinned (OpenSpec.ofChange fnTurnedGrowthSpec)

/-- ITS FALSE NEIGHBOUR: 'it returns false'. Refute it at one input. -/
def fnTurnedGrowthWrong : ChangeSpec := { name := "fnTurnedGrowth", vars := ["loop.example/g01081/impl.errTerminal", "loop.example/g01081/impl.errNoSpace"], fn := fun _ => fun
  | [d, g1, g2] => { results := [.lit (.bool false)], args := [d], vars := [g1, g2] }
  | _ => none }
def FnTurnedGrowthWrongFalsely : Prop := fnTurnedGrowthRow.holds Tryz.pinned (OpenSpec.ofChange fnTurnedGrowthWrong)

/- THE SECOND FORM. 'bulk': how many values and letters a reading holds, each counted each time it is reached (what is shared counts as often as it is met; a slice's spare places count too). A statement '..UptoSaid' is the law's where the arguments, and the package variables that the reading takes, are together of bulk at most 1048576: NARROWER than '..Said'. Prove '..Said' where nothing that the law and all that it calls make is longer than what came in: it says more and counts as full. Else prove '..UptoSaid'. A law counts once. -/
mutual
def uptoBulk {H : Type} : DataW H → Nat
  | .lit (.string bytes) => bytes.length + 1
  | .lit _ => 1
  | .nil => 1
  | .ptr d => uptoBulk d + 1
  | .slice elems spare => uptoBulkAll elems + uptoBulkAll spare + 1
  | .agg parts => uptoBulkAll parts + 1
  | .iface _ d => uptoBulk d + 1
  | .map entries => uptoBulkEntries entries + 1
  | .held _ => 1
def uptoBulkAll {H : Type} : List (DataW H) → Nat
  | [] => 0
  | d :: r => uptoBulk d + uptoBulkAll r
def uptoBulkEntries {H : Type} : List (Lit × DataW H) → Nat
  | [] => 0
  | x :: r => uptoBulkEntry x + uptoBulkEntries r
def uptoBulkEntry {H : Type} : Lit × DataW H → Nat
  | (.string bytes, d) => bytes.length + uptoBulk d + 1
  | (_, d) => uptoBulk d + 1
 end
def uptoSmall : (H : Type) → List (DataW H) → Bool := fun _ ds => decide (uptoBulkAll ds ≤ 1048576)
def OpenSpec.upto (s : _root_.Go.ChangeSpec) : _root_.Go.OpenSpec := { _root_.Go.OpenSpec.ofChange s with cond := some uptoSmall }

/-- 'laws.FnTight', WHERE WHAT IT READS IS OF BULK AT MOST 1048576: true; the input reads as it did. -/
def fnTightUptoRow : OpenClaim := { program := "ytoodopepphhpoaagreatdoor", sum := "d564b71eb6f7c91bd69699e1aca6c0ca4f902834813034fd330020d1a7673ce3", func := "loop.example/g01081/laws.FnTight", spec := "fnTight", inPlace := ["internal/reflectlite.TypeOf"], unfollowed := true, recurses := true, named := ["loop.example/g01081/impl.errTerminal", "loop.example/g01081/impl.errNoSpace"], ifaces := true, plainKeys := false, apart := false, laid := [("loop.example/g01081/impl.errTerminal", laid_loop_example_g01081_impl_errTerminal), ("loop.example/g01081/impl.errNoSpace", laid_loop_example_g01081_impl_errNoSpace)], narrowed := true }
def FnTightUptoSaid : Prop := fnTightUptoRow.holds Tryz.pinned (OpenSpec.upto fnTightSpec)

/-- 'laws.FnTurnedGrowth', WHERE WHAT IT READS IS OF BULK AT MOST 1048576: true; the input reads as it did. -/
def fnTurnedGrowthUptoRow : OpenClaim := { program := "ytoodopepphhpoaagreatdoor", sum := "d564b71eb6f7c91bd69699e1aca6c0ca4f902834813034fd330020d1a7673ce3", func := "loop.example/g01081/laws.FnTurnedGrowth", spec := "fnTurnedGrowth", inPlace := ["internal/reflectlite.TypeOf"], unfollowed := true, recurses := true, named := ["loop.example/g01081/impl.errTerminal", "loop.example/g01081/impl.errNoSpace"], ifaces := true, plainKeys := false, apart := false, laid := [("loop.example/g01081/impl.errTerminal", laid_loop_example_g01081_impl_errTerminal), ("loop.example/g01081/impl.errNoSpace", laid_loop_example_g01081_impl_errNoSpace)], narrowed := true }
def FnTurnedGrowthUptoSaid : Prop := fnTurnedGrowthUptoRow.holds Tryz.pinned (OpenSpec.upto fnTurnedGrowthSpec)

end Rows
end Go.Proofs.YtoodopepphhpoaaGreatDoor
