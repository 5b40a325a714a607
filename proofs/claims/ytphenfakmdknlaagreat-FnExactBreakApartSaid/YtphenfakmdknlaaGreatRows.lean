/-
  No cell of these rows narrows 'for every input' (looked for: loops, veiled, ifaces, maps, wideKeys, modest, calm, conditions, laid).
  DERIVED. THE GIVEN ROWS OF THIS SEAT. 7 by the template 'for every input the law returns true; each argument reads behind the call as it read before'; 0 by the template 'total and deterministic' (their statements: YtphenfakmdknlaaGreatTotals.lean).
  GIVEN WITH THE SEED: the statements are not yours to turn. If you find one false, say at which input.
  Laid BY PROGRAM, IN A SANDBOX (cutbox-rows.mjs): the forced cells as the released guide's own fill.sh prints them over the translation e92aa2d5179973ab… (all of the seat's roots in one cut). By AI agents, Wed Nov 11 2026. No macro, syntax, notation, axiom, sorry.
-/
import Derived.Test.YtphenfakmdknlaaGreatChecked
import GoSem.Claim
import GoSem.ClaimJoined
import GoSem.ClaimMapViews
import Derived.JoinedTies
import Derived.KernelRfl
namespace Go.Proofs.YtphenfakmdknlaaGreat
/- THE CELL 'sum', in the pinned program and in every row, IS THE sha256 OF THE DUMP (.gsa) THAT YtphenfakmdknlaaGreatProg.lean LOADS. Nothing in Lean hashes anything: it is a label: what it is worth is what the hold of that sum in a sandbox is worth. -/
noncomputable def Tryz.pinned : Pinned := { name := "ytphenfakmdknlaagreat", sum := "e92aa2d5179973abe0abe080327ef1afb573b3dff709a96492cbfb2c83051a19", checked := Tryz.checked }
namespace Rows
def none {H : Type} : Left H := { results := [], args := [] }

/-- 'laws.FnExactMergesOf': WHATEVER THE INPUT: true; the input reads as it did. -/
def fnExactMergesOfSpec : ChangeSpec := { name := "fnExactMergesOf", fn := fun _ => fun
  | [d1, d2, d3] => { results := [.lit (.bool true)], args := [d1, d2, d3] }
  | _ => none }
def fnExactMergesOfRow : OpenClaim := { program := "ytphenfakmdknlaagreat", sum := "e92aa2d5179973abe0abe080327ef1afb573b3dff709a96492cbfb2c83051a19", func := "loop.example/g01081/laws.FnExactMergesOf", spec := "fnExactMergesOf", unfollowed := true, recurses := true, plainKeys := false, apart := false }
def FnExactMergesOfSaid : Prop := fnExactMergesOfRow.holds Tryz.pinned (OpenSpec.ofChange fnExactMergesOfSpec)

/-- ITS FALSE NEIGHBOUR: 'it returns false'. Refute it at one input. -/
def fnExactMergesOfWrong : ChangeSpec := { name := "fnExactMergesOf", fn := fun _ => fun
  | [d1, d2, d3] => { results := [.lit (.bool false)], args := [d1, d2, d3] }
  | _ => none }
def FnExactMergesOfWrongFalsely : Prop := fnExactMergesOfRow.holds Tryz.pinned (OpenSpec.ofChange fnExactMergesOfWrong)

/-- 'laws.FnExactBreakApart': WHATEVER THE INPUT: true; the input reads as it did. -/
def fnExactBreakApartSpec : ChangeSpec := { name := "fnExactBreakApart", fn := fun _ => fun
  | [d1, d2, d3] => { results := [.lit (.bool true)], args := [d1, d2, d3] }
  | _ => none }
def fnExactBreakApartRow : OpenClaim := { program := "ytphenfakmdknlaagreat", sum := "e92aa2d5179973abe0abe080327ef1afb573b3dff709a96492cbfb2c83051a19", func := "loop.example/g01081/laws.FnExactBreakApart", spec := "fnExactBreakApart", unfollowed := true, recurses := true, plainKeys := false, apart := false }
def FnExactBreakApartSaid : Prop := fnExactBreakApartRow.holds Tryz.pinned (OpenSpec.ofChange fnExactBreakApartSpec)

/-- ITS FALSE NEIGHBOUR: 'it returns false'. Refute it at one input. -/
def fnExactBreakApartWrong : ChangeSpec := { name := "fnExactBreakApart", fn := fun _ => fun
  | [d1, d2, d3] => { results := [.lit (.bool false)], args := [d1, d2, d3] }
  | _ => none }
def FnExactBreakApartWrongFalsely : Prop := fnExactBreakApartRow.holds Tryz.pinned (OpenSpec.ofChange fnExactBreakApartWrong)

/-- 'laws.FnRelaxed': WHATEVER THE INPUT: true; the input reads as it did. -/
def fnRelaxedSpec : ChangeSpec := { name := "fnRelaxed", fn := fun _ => fun
  | [d1, d2] => { results := [.lit (.bool true)], args := [d1, d2] }
  | _ => none }
def fnRelaxedRow : OpenClaim := { program := "ytphenfakmdknlaagreat", sum := "e92aa2d5179973abe0abe080327ef1afb573b3dff709a96492cbfb2c83051a19", func := "loop.example/g01081/laws.FnRelaxed", spec := "fnRelaxed", unfollowed := true, recurses := true, plainKeys := false, apart := false }
def FnRelaxedSaid : Prop := fnRelaxedRow.holds Tryz.pinned (OpenSpec.ofChange fnRelaxedSpec)

/-- ITS FALSE NEIGHBOUR: 'it returns false'. Refute it at one input. -/
def fnRelaxedWrong : ChangeSpec := { name := "fnRelaxed", fn := fun _ => fun
  | [d1, d2] => { results := [.lit (.bool false)], args := [d1, d2] }
  | _ => none }
def FnRelaxedWrongFalsely : Prop := fnRelaxedRow.holds Tryz.pinned (OpenSpec.ofChange fnRelaxedWrong)

/-- 'laws.FnExactPlayMishaps': WHATEVER THE INPUT: true; the input reads as it did. -/
def fnExactPlayMishapsSpec : ChangeSpec := { name := "fnExactPlayMishaps", fn := fun _ => fun
  | [d1, d2] => { results := [.lit (.bool true)], args := [d1, d2] }
  | _ => none }
def fnExactPlayMishapsRow : OpenClaim := { program := "ytphenfakmdknlaagreat", sum := "e92aa2d5179973abe0abe080327ef1afb573b3dff709a96492cbfb2c83051a19", func := "loop.example/g01081/laws.FnExactPlayMishaps", spec := "fnExactPlayMishaps", unfollowed := true, recurses := true, plainKeys := false, apart := false }
def FnExactPlayMishapsSaid : Prop := fnExactPlayMishapsRow.holds Tryz.pinned (OpenSpec.ofChange fnExactPlayMishapsSpec)

/-- ITS FALSE NEIGHBOUR: 'it returns false'. Refute it at one input. -/
def fnExactPlayMishapsWrong : ChangeSpec := { name := "fnExactPlayMishaps", fn := fun _ => fun
  | [d1, d2] => { results := [.lit (.bool false)], args := [d1, d2] }
  | _ => none }
def FnExactPlayMishapsWrongFalsely : Prop := fnExactPlayMishapsRow.holds Tryz.pinned (OpenSpec.ofChange fnExactPlayMishapsWrong)

/-- 'laws.FnCommon': WHATEVER THE INPUT: true; the input reads as it did. -/
def fnCommonSpec : ChangeSpec := { name := "fnCommon", fn := fun _ => fun
  | [d1, d2] => { results := [.lit (.bool true)], args := [d1, d2] }
  | _ => none }
def fnCommonRow : OpenClaim := { program := "ytphenfakmdknlaagreat", sum := "e92aa2d5179973abe0abe080327ef1afb573b3dff709a96492cbfb2c83051a19", func := "loop.example/g01081/laws.FnCommon", spec := "fnCommon", unfollowed := true, recurses := true, plainKeys := false, apart := false }
def FnCommonSaid : Prop := fnCommonRow.holds Tryz.pinned (OpenSpec.ofChange fnCommonSpec)

/-- ITS FALSE NEIGHBOUR: 'it returns false'. Refute it at one input. -/
def fnCommonWrong : ChangeSpec := { name := "fnCommon", fn := fun _ => fun
  | [d1, d2] => { results := [.lit (.bool false)], args := [d1, d2] }
  | _ => none }
def FnCommonWrongFalsely : Prop := fnCommonRow.holds Tryz.pinned (OpenSpec.ofChange fnCommonWrong)

/-- 'laws.FnMonotone': WHATEVER THE INPUT: true; the input reads as it did. -/
def fnMonotoneSpec : ChangeSpec := { name := "fnMonotone", fn := fun _ => fun
  | [d1, d2] => { results := [.lit (.bool true)], args := [d1, d2] }
  | _ => none }
def fnMonotoneRow : OpenClaim := { program := "ytphenfakmdknlaagreat", sum := "e92aa2d5179973abe0abe080327ef1afb573b3dff709a96492cbfb2c83051a19", func := "loop.example/g01081/laws.FnMonotone", spec := "fnMonotone", inPlace := ["slices.overlaps[loop.example/g01081/impl.Placed]"], unfollowed := true, recurses := true, plainKeys := false, apart := false }
def FnMonotoneSaid : Prop := fnMonotoneRow.holds Tryz.pinned (OpenSpec.ofChange fnMonotoneSpec)

/-- ITS FALSE NEIGHBOUR: 'it returns false'. Refute it at one input. -/
def fnMonotoneWrong : ChangeSpec := { name := "fnMonotone", fn := fun _ => fun
  | [d1, d2] => { results := [.lit (.bool false)], args := [d1, d2] }
  | _ => none }
def FnMonotoneWrongFalsely : Prop := fnMonotoneRow.holds Tryz.pinned (OpenSpec.ofChange fnMonotoneWrong)

/-- 'laws.FnExactBlockMismatches': WHATEVER THE INPUT: true; the input reads as it did. -/
def fnExactBlockMismatchesSpec : ChangeSpec := { name := "fnExactBlockMismatches", fn := fun _ => fun
  | [d1, d2, d3] => { results := [.lit (.bool true)], args := [d1, d2, d3] }
  | _ => none }
def fnExactBlockMismatchesRow : OpenClaim := { program := "ytphenfakmdknlaagreat", sum := "e92aa2d5179973abe0abe080327ef1afb573b3dff709a96492cbfb2c83051a19", func := "loop.example/g01081/laws.FnExactBlockMismatches", spec := "fnExactBlockMismatches", unfollowed := true, recurses := true, plainKeys := false, apart := false }
def FnExactBlockMismatchesSaid : Prop := fnExactBlockMismatchesRow.holds Tryz.pinned (OpenSpec.ofChange fnExactBlockMismatchesSpec)

/-- ITS FALSE NEIGHBOUR: 'it returns false'. Refute it at one input. -/
def fnExactBlockMismatchesWrong : ChangeSpec := { name := "fnExactBlockMismatches", fn := fun _ => fun
  | [d1, d2, d3] => { results := [.lit (.bool false)], args := [d1, d2, d3] }
  | _ => none }
def FnExactBlockMismatchesWrongFalsely : Prop := fnExactBlockMismatchesRow.holds Tryz.pinned (OpenSpec.ofChange fnExactBlockMismatchesWrong)

/- THE SECOND FORM. 'bulk': how many values and letters a reading holds, each counted each time it is reached (what is shared counts as often as it is met; a slice's spare places count too). A statement '..UptoSaid' is the law's where the arguments, and the package variables that the reading takes, are together of bulk at most 1048576: NARROWER than '..Said'. Prove '..Said' where nothing that the law and all that it calls make is longer than what came in: it says more and counts as full. Else prove '..UptoSaid'. A law counts once. -/
mutual
def uptoBulk {H : Type} : DataW H → Nat
  | .lit (.string bytes) => bytes.length + 1
  | .lit _ => 1
  | .nil => 1
  | .ptr d => uptoBulk d + 1
  | .slice elems spare => uptoBulkAll elems + uptoBulkAll spare + 1
  | .agg parts => uptoBulkAll parts + 1
  | .iface _ d => uptoBulk d + 1
  | .map entries => uptoBulkEntries entries + 1
  | .held _ => 1
def uptoBulkAll {H : Type} : List (DataW H) → Nat
  | [] => 0
  | d :: r => uptoBulk d + uptoBulkAll r
def uptoBulkEntries {H : Type} : List (Lit × DataW H) → Nat
  | [] => 0
  | x :: r => uptoBulkEntry x + uptoBulkEntries r
def uptoBulkEntry {H : Type} : Lit × DataW H → Nat
  | (.string bytes, d) => bytes.length + uptoBulk d + 1
  | (_, d) => uptoBulk d + 1
 end
def uptoSmall : (H : Type) → List (DataW H) → Bool := fun _ ds => decide (uptoBulkAll ds ≤ 1048576)
def OpenSpec.upto (s : _root_.Go.ChangeSpec) : _root_.Go.OpenSpec := { _root_.Go.OpenSpec.ofChange s with cond := some uptoSmall }

/-- 'laws.FnExactMergesOf', WHERE WHAT IT READS IS OF BULK AT MOST 1048576: true; the input reads as it did. -/
def fnExactMergesOfUptoRow : OpenClaim := { program := "ytphenfakmdknlaagreat", sum := "e92aa2d5179973abe0abe080327ef1afb573b3dff709a96492cbfb2c83051a19", func := "loop.example/g01081/laws.FnExactMergesOf", spec := "fnExactMergesOf", unfollowed := true, recurses := true, plainKeys := false, apart := false, narrowed := true }
def FnExactMergesOfUptoSaid : Prop := fnExactMergesOfUptoRow.holds Tryz.pinned (OpenSpec.upto fnExactMergesOfSpec)

/-- 'laws.FnExactBreakApart', WHERE WHAT IT READS IS OF BULK AT MOST 1048576: true; the input reads as it did. -/
def fnExactBreakApartUptoRow : OpenClaim := { program := "ytphenfakmdknlaagreat", sum := "e92aa2d5179973abe0abe080327ef1afb573b3dff709a96492cbfb2c83051a19", func := "loop.example/g01081/laws.FnExactBreakApart", spec := "fnExactBreakApart", unfollowed := true, recurses := true, plainKeys := false, apart := false, narrowed := true }
def FnExactBreakApartUptoSaid : Prop := fnExactBreakApartUptoRow.holds Tryz.pinned (OpenSpec.upto fnExactBreakApartSpec)

/-- 'laws.FnRelaxed', WHERE WHAT IT READS IS OF BULK AT MOST 1048576: true; the input reads as it did. -/
def fnRelaxedUptoRow : OpenClaim := { program := "ytphenfakmdknlaagreat", sum := "e92aa2d5179973abe0abe080327ef1afb573b3dff709a96492cbfb2c83051a19", func := "loop.example/g01081/laws.FnRelaxed", spec := "fnRelaxed", unfollowed := true, recurses := true, plainKeys := false, apart := false, narrowed := true }
def FnRelaxedUptoSaid : Prop := fnRelaxedUptoRow.holds Tryz.pinned (OpenSpec.upto fnRelaxedSpec)

/-- 'laws.FnExactPlayMishaps', WHERE WHAT IT READS IS OF BULK AT MOST 1048576: true; the input reads as it did. -/
def fnExactPlayMishapsUptoRow : OpenClaim := { program := "ytphenfakmdknlaagreat", sum := "e92aa2d5179973abe0abe080327ef1afb573b3dff709a96492cbfb2c83051a19", func := "loop.example/g01081/laws.FnExactPlayMishaps", spec := "fnExactPlayMishaps", unfollowed := true, recurses := true, plainKeys := false, apart := false, narrowed := true }
def FnExactPlayMishapsUptoSaid : Prop := fnExactPlayMishapsUptoRow.holds Tryz.pinned (OpenSpec.upto fnExactPlayMishapsSpec)

/-- 'laws.FnCommon', WHERE WHAT IT READS IS OF BULK AT MOST 1048576: true; the input reads as it did. -/
def fnCommonUptoRow : OpenClaim := { program := "ytphenfakmdknlaagreat", sum := "e92aa2d5179973abe0abe080327ef1afb573b3dff709a96492cbfb2c83051a19", func := "loop.example/g01081/laws.FnCommon", spec := "fnCommon", unfollowed := true, recurses := true, plainKeys := false, apart := false, narrowed := true }
def FnCommonUptoSaid : Prop := fnCommonUptoRow.holds Tryz.pinned (OpenSpec.upto fnCommonSpec)

/-- 'laws.FnMonotone', WHERE WHAT IT READS IS OF BULK AT MOST 1048576: true; the input reads as it did. -/
def fnMonotoneUptoRow : OpenClaim := { program := "ytphenfakmdknlaagreat", sum := "e92aa2d5179973abe0abe080327ef1afb573b3dff709a96492cbfb2c83051a19", func := "loop.example/g01081/laws.FnMonotone", spec := "fnMonotone", inPlace := ["slices.overlaps[loop.example/g01081/impl.Placed]"], unfollowed := true, recurses := true, plainKeys := false, apart := false, narrowed := true }
def FnMonotoneUptoSaid : Prop := fnMonotoneUptoRow.holds Tryz.pinned (OpenSpec.upto fnMonotoneSpec)

/-- 'laws.FnExactBlockMismatches', WHERE WHAT IT READS IS OF BULK AT MOST 1048576: true; the input reads as it did. -/
def fnExactBlockMismatchesUptoRow : OpenClaim := { program := "ytphenfakmdknlaagreat", sum := "e92aa2d5179973abe0abe080327ef1afb573b3dff709a96492cbfb2c83051a19", func := "loop.example/g01081/laws.FnExactBlockMismatches", spec := "fnExactBlockMismatches", unfollowed := true, recurses := true, plainKeys := false, apart := false, narrowed := true }
def FnExactBlockMismatchesUptoSaid : Prop := fnExactBlockMismatchesUptoRow.holds Tryz.pinned (OpenSpec.upto fnExactBlockMismatchesSpec)

end Rows
end Go.Proofs.YtphenfakmdknlaaGreat
