/-
  DERIVED. GIVEN WITH THE SEED: THE CARDS: each row of YtihgaadadaekmaaGreatDoorRows.lean that lists a variable, with what it lists TIED to the program's text (the seventh form; the later family's looks); each row that meets fmt, with fmt's text TOLD by the authors' own Lean function (tested against real Go, not proved from fmt's source: count such statements apart). THE CARD IS WHAT COUNTS. Prove the row's statement (the work); the ties are given (YtihgaadadaekmaaGreatDoorTie.lean); close each card by the builder's one call (the guide's Derived/Test/ToyasCard.lean, 'card_holds'). Laid BY PROGRAM, IN A SANDBOX (cutbox-door.mjs). By AI agents, Wed Nov 11 2026. No macro, syntax, notation, axiom, sorry.
-/
import Derived.Test.YtihgaadadaekmaaGreatDoorRows
import GoSem.ClaimSeven
namespace Go.Proofs.YtihgaadadaekmaaGreatDoor
namespace Rows

/-- THE TIED CARD OF 'laws.FnExactDecodeRule'. -/
def fnExactDecodeRuleCard : Claim7 := { stood := { row := fnExactDecodeRuleRow, standIns := [], harness := (true, "097a4893fdfc24de9e318921e7878ace63ad8177eb4fc01334e6d12c442cb36a"), looks := false }, kinds := [], alts := [], laidByText := true, laidKinds := [.data, .data, .data], laidTests := true, laidLooks := .later }
def FnExactDecodeRuleCardSaid : Prop := Claim7.holds Tryz.pinned (.plain (OpenSpec.ofChange fnExactDecodeRuleSpec)) fnExactDecodeRuleCard

/-- THE TIED CARD OF 'laws.FnExactDecodeCounter'. -/
def fnExactDecodeCounterCard : Claim7 := { stood := { row := fnExactDecodeCounterRow, standIns := [], harness := (true, "097a4893fdfc24de9e318921e7878ace63ad8177eb4fc01334e6d12c442cb36a"), looks := false }, kinds := [], alts := [], laidByText := true, laidKinds := [.data, .data, .data], laidTests := true, laidLooks := .later }
def FnExactDecodeCounterCardSaid : Prop := Claim7.holds Tryz.pinned (.plain (OpenSpec.ofChange fnExactDecodeCounterSpec)) fnExactDecodeCounterCard

/-- THE TIED CARD OF 'laws.FnExactDecodeForm'. -/
def fnExactDecodeFormCard : Claim7 := { stood := { row := fnExactDecodeFormRow, standIns := [], harness := (true, "097a4893fdfc24de9e318921e7878ace63ad8177eb4fc01334e6d12c442cb36a"), looks := false }, kinds := [], alts := [], laidByText := true, laidKinds := [.data, .data, .data], laidTests := true, laidLooks := .later }
def FnExactDecodeFormCardSaid : Prop := Claim7.holds Tryz.pinned (.plain (OpenSpec.ofChange fnExactDecodeFormSpec)) fnExactDecodeFormCard

/-- THE TIED CARD OF 'laws.FnExactProductsIn'. -/
def fnExactProductsInCard : Claim7 := { stood := { row := fnExactProductsInRow, standIns := [], harness := (true, "097a4893fdfc24de9e318921e7878ace63ad8177eb4fc01334e6d12c442cb36a"), looks := false }, kinds := [], alts := [], laidByText := true, laidKinds := [.data, .data, .data], laidTests := true, laidLooks := .later }
def FnExactProductsInCardSaid : Prop := Claim7.holds Tryz.pinned (.plain (OpenSpec.ofChange fnExactProductsInSpec)) fnExactProductsInCard

/-- THE SECOND FORM's CARD OF 'laws.FnExactDecodeRule'. -/
def fnExactDecodeRuleUptoCard : Claim7 := { stood := { row := fnExactDecodeRuleUptoRow, standIns := [], harness := (true, "097a4893fdfc24de9e318921e7878ace63ad8177eb4fc01334e6d12c442cb36a"), looks := false }, kinds := [], alts := [], laidByText := true, laidKinds := [.data, .data, .data], laidTests := true, laidLooks := .later }
def FnExactDecodeRuleUptoCardSaid : Prop := Claim7.holds Tryz.pinned (.plain (OpenSpec.upto fnExactDecodeRuleSpec)) fnExactDecodeRuleUptoCard

/-- THE SECOND FORM's CARD OF 'laws.FnExactDecodeCounter'. -/
def fnExactDecodeCounterUptoCard : Claim7 := { stood := { row := fnExactDecodeCounterUptoRow, standIns := [], harness := (true, "097a4893fdfc24de9e318921e7878ace63ad8177eb4fc01334e6d12c442cb36a"), looks := false }, kinds := [], alts := [], laidByText := true, laidKinds := [.data, .data, .data], laidTests := true, laidLooks := .later }
def FnExactDecodeCounterUptoCardSaid : Prop := Claim7.holds Tryz.pinned (.plain (OpenSpec.upto fnExactDecodeCounterSpec)) fnExactDecodeCounterUptoCard

/-- THE SECOND FORM's CARD OF 'laws.FnExactDecodeForm'. -/
def fnExactDecodeFormUptoCard : Claim7 := { stood := { row := fnExactDecodeFormUptoRow, standIns := [], harness := (true, "097a4893fdfc24de9e318921e7878ace63ad8177eb4fc01334e6d12c442cb36a"), looks := false }, kinds := [], alts := [], laidByText := true, laidKinds := [.data, .data, .data], laidTests := true, laidLooks := .later }
def FnExactDecodeFormUptoCardSaid : Prop := Claim7.holds Tryz.pinned (.plain (OpenSpec.upto fnExactDecodeFormSpec)) fnExactDecodeFormUptoCard

/-- THE SECOND FORM's CARD OF 'laws.FnExactProductsIn'. -/
def fnExactProductsInUptoCard : Claim7 := { stood := { row := fnExactProductsInUptoRow, standIns := [], harness := (true, "097a4893fdfc24de9e318921e7878ace63ad8177eb4fc01334e6d12c442cb36a"), looks := false }, kinds := [], alts := [], laidByText := true, laidKinds := [.data, .data, .data], laidTests := true, laidLooks := .later }
def FnExactProductsInUptoCardSaid : Prop := Claim7.holds Tryz.pinned (.plain (OpenSpec.upto fnExactProductsInSpec)) fnExactProductsInUptoCard
end Rows
end Go.Proofs.YtihgaadadaekmaaGreatDoor
