/-
  DERIVED. GIVEN WITH THE SEED: THE CARDS: each row of YtainmfbpilopaaaGreatDoorRows.lean that lists a variable, with what it lists TIED to the program's text (the seventh form; the later family's looks); each row that meets fmt, with fmt's text TOLD by the authors' own Lean function (tested against real Go, not proved from fmt's source: count such statements apart). THE CARD IS WHAT COUNTS. Prove the row's statement (the work); the ties are given (YtainmfbpilopaaaGreatDoorTie.lean); close each card by the builder's one call (the guide's Derived/Test/ToyasCard.lean, 'card_holds'). Laid BY PROGRAM, IN A SANDBOX (cutbox-door.mjs). By AI agents, Wed Nov 11 2026. No macro, syntax, notation, axiom, sorry.
-/
import Derived.Test.YtainmfbpilopaaaGreatDoorRows
import GoSem.ClaimSeven
namespace Go.Proofs.YtainmfbpilopaaaGreatDoor
namespace Rows

/-- THE TIED CARD OF 'laws.FnFrame'. -/
def fnFrameCard : Claim7 := { stood := { row := fnFrameRow, standIns := [], harness := (true, "8b6cde9da4727fff6fae24268883e7c3d8e0f6af2f8eb1986ed06ad0d31a6c24"), looks := true }, kinds := [], alts := [], laidByText := true, laidKinds := [.data, .data, .data, .sentinel, .sentinel], laidTests := true, laidLooks := .later }
def FnFrameCardSaid : Prop := Claim7.holds Tryz.pinned (.plain (OpenSpec.ofChange fnFrameSpec)) fnFrameCard

/-- THE TIED CARD OF 'laws.FnTight'. -/
def fnTightCard : Claim7 := { stood := { row := fnTightRow, standIns := [], harness := (true, "8b6cde9da4727fff6fae24268883e7c3d8e0f6af2f8eb1986ed06ad0d31a6c24"), looks := true }, kinds := [], alts := [], laidByText := true, laidKinds := [.sentinel, .sentinel], laidTests := true, laidLooks := .later }
def FnTightCardSaid : Prop := Claim7.holds Tryz.pinned (.plain (OpenSpec.ofChange fnTightSpec)) fnTightCard

/-- THE TIED CARD OF 'laws.FnTurnedGrowth'. -/
def fnTurnedGrowthCard : Claim7 := { stood := { row := fnTurnedGrowthRow, standIns := [], harness := (true, "8b6cde9da4727fff6fae24268883e7c3d8e0f6af2f8eb1986ed06ad0d31a6c24"), looks := true }, kinds := [], alts := [], laidByText := true, laidKinds := [.sentinel, .sentinel], laidTests := true, laidLooks := .later }
def FnTurnedGrowthCardSaid : Prop := Claim7.holds Tryz.pinned (.plain (OpenSpec.ofChange fnTurnedGrowthSpec)) fnTurnedGrowthCard

/-- THE TIED CARD OF 'laws.FnGrown'. -/
def fnGrownCard : Claim7 := { stood := { row := fnGrownRow, standIns := [], harness := (true, "8b6cde9da4727fff6fae24268883e7c3d8e0f6af2f8eb1986ed06ad0d31a6c24"), looks := true }, kinds := [], alts := [], laidByText := true, laidKinds := [.sentinel, .sentinel], laidTests := true, laidLooks := .later }
def FnGrownCardSaid : Prop := Claim7.holds Tryz.pinned (.plain (OpenSpec.ofChange fnGrownSpec)) fnGrownCard

/-- THE TIED CARD OF 'laws.FnExactShapeOf'. -/
def fnExactShapeOfCard : Claim7 := { stood := { row := fnExactShapeOfRow, standIns := [], harness := (true, "8b6cde9da4727fff6fae24268883e7c3d8e0f6af2f8eb1986ed06ad0d31a6c24"), looks := true }, kinds := [], alts := [], laidByText := true, laidKinds := [.sentinel, .sentinel], laidTests := true, laidLooks := .later }
def FnExactShapeOfCardSaid : Prop := Claim7.holds Tryz.pinned (.plain (OpenSpec.ofChange fnExactShapeOfSpec)) fnExactShapeOfCard

/-- THE SECOND FORM's CARD OF 'laws.FnFrame'. -/
def fnFrameUptoCard : Claim7 := { stood := { row := fnFrameUptoRow, standIns := [], harness := (true, "8b6cde9da4727fff6fae24268883e7c3d8e0f6af2f8eb1986ed06ad0d31a6c24"), looks := true }, kinds := [], alts := [], laidByText := true, laidKinds := [.data, .data, .data, .sentinel, .sentinel], laidTests := true, laidLooks := .later }
def FnFrameUptoCardSaid : Prop := Claim7.holds Tryz.pinned (.plain (OpenSpec.upto fnFrameSpec)) fnFrameUptoCard

/-- THE SECOND FORM's CARD OF 'laws.FnTight'. -/
def fnTightUptoCard : Claim7 := { stood := { row := fnTightUptoRow, standIns := [], harness := (true, "8b6cde9da4727fff6fae24268883e7c3d8e0f6af2f8eb1986ed06ad0d31a6c24"), looks := true }, kinds := [], alts := [], laidByText := true, laidKinds := [.sentinel, .sentinel], laidTests := true, laidLooks := .later }
def FnTightUptoCardSaid : Prop := Claim7.holds Tryz.pinned (.plain (OpenSpec.upto fnTightSpec)) fnTightUptoCard

/-- THE SECOND FORM's CARD OF 'laws.FnTurnedGrowth'. -/
def fnTurnedGrowthUptoCard : Claim7 := { stood := { row := fnTurnedGrowthUptoRow, standIns := [], harness := (true, "8b6cde9da4727fff6fae24268883e7c3d8e0f6af2f8eb1986ed06ad0d31a6c24"), looks := true }, kinds := [], alts := [], laidByText := true, laidKinds := [.sentinel, .sentinel], laidTests := true, laidLooks := .later }
def FnTurnedGrowthUptoCardSaid : Prop := Claim7.holds Tryz.pinned (.plain (OpenSpec.upto fnTurnedGrowthSpec)) fnTurnedGrowthUptoCard

/-- THE SECOND FORM's CARD OF 'laws.FnGrown'. -/
def fnGrownUptoCard : Claim7 := { stood := { row := fnGrownUptoRow, standIns := [], harness := (true, "8b6cde9da4727fff6fae24268883e7c3d8e0f6af2f8eb1986ed06ad0d31a6c24"), looks := true }, kinds := [], alts := [], laidByText := true, laidKinds := [.sentinel, .sentinel], laidTests := true, laidLooks := .later }
def FnGrownUptoCardSaid : Prop := Claim7.holds Tryz.pinned (.plain (OpenSpec.upto fnGrownSpec)) fnGrownUptoCard

/-- THE SECOND FORM's CARD OF 'laws.FnExactShapeOf'. -/
def fnExactShapeOfUptoCard : Claim7 := { stood := { row := fnExactShapeOfUptoRow, standIns := [], harness := (true, "8b6cde9da4727fff6fae24268883e7c3d8e0f6af2f8eb1986ed06ad0d31a6c24"), looks := true }, kinds := [], alts := [], laidByText := true, laidKinds := [.sentinel, .sentinel], laidTests := true, laidLooks := .later }
def FnExactShapeOfUptoCardSaid : Prop := Claim7.holds Tryz.pinned (.plain (OpenSpec.upto fnExactShapeOfSpec)) fnExactShapeOfUptoCard
end Rows
end Go.Proofs.YtainmfbpilopaaaGreatDoor
