/-
  DERIVED. GIVEN WITH THE SEED: THE CARDS: each row of YtoodopepphhpoaaGreatDoorRows.lean that lists a variable, with what it lists TIED to the program's text (the seventh form; the later family's looks); each row that meets fmt, with fmt's text TOLD by the authors' own Lean function (tested against real Go, not proved from fmt's source: count such statements apart). THE CARD IS WHAT COUNTS. Prove the row's statement (the work); the ties are given (YtoodopepphhpoaaGreatDoorTie.lean); close each card by the builder's one call (the guide's Derived/Test/ToyasCard.lean, 'card_holds'). Laid BY PROGRAM, IN A SANDBOX (cutbox-door.mjs). By AI agents, Wed Nov 11 2026. No macro, syntax, notation, axiom, sorry.
-/
import Derived.Test.YtoodopepphhpoaaGreatDoorRows
import GoSem.ClaimSeven
namespace Go.Proofs.YtoodopepphhpoaaGreatDoor
namespace Rows

/-- THE TIED CARD OF 'laws.FnTight'. -/
def fnTightCard : Claim7 := { stood := { row := fnTightRow, standIns := [], harness := (true, "793035a4ff973d213d0f69ed211362b043dac77f6858f3ea2ac4d2bb994c5176"), looks := true }, kinds := [], alts := [], laidByText := true, laidKinds := [.sentinel, .sentinel], laidTests := true, laidLooks := .later }
def FnTightCardSaid : Prop := Claim7.holds Tryz.pinned (.plain (OpenSpec.ofChange fnTightSpec)) fnTightCard

/-- THE TIED CARD OF 'laws.FnTurnedGrowth'. -/
def fnTurnedGrowthCard : Claim7 := { stood := { row := fnTurnedGrowthRow, standIns := [], harness := (true, "793035a4ff973d213d0f69ed211362b043dac77f6858f3ea2ac4d2bb994c5176"), looks := true }, kinds := [], alts := [], laidByText := true, laidKinds := [.sentinel, .sentinel], laidTests := true, laidLooks := .later }
def FnTurnedGrowthCardSaid : Prop := Claim7.holds Tryz.pinned (.plain (OpenSpec.ofChange fnTurnedGrowthSpec)) fnTurnedGrowthCard

/-- THE SECOND FORM's CARD OF 'laws.FnTight'. -/
def fnTightUptoCard : Claim7 := { stood := { row := fnTightUptoRow, standIns := [], harness := (true, "793035a4ff973d213d0f69ed211362b043dac77f6858f3ea2ac4d2bb994c5176"), looks := true }, kinds := [], alts := [], laidByText := true, laidKinds := [.sentinel, .sentinel], laidTests := true, laidLooks := .later }
def FnTightUptoCardSaid : Prop := Claim7.holds Tryz.pinned (.plain (OpenSpec.upto fnTightSpec)) fnTightUptoCard

/-- THE SECOND FORM's CARD OF 'laws.FnTurnedGrowth'. -/
def fnTurnedGrowthUptoCard : Claim7 := { stood := { row := fnTurnedGrowthUptoRow, standIns := [], harness := (true, "793035a4ff973d213d0f69ed211362b043dac77f6858f3ea2ac4d2bb994c5176"), looks := true }, kinds := [], alts := [], laidByText := true, laidKinds := [.sentinel, .sentinel], laidTests := true, laidLooks := .later }
def FnTurnedGrowthUptoCardSaid : Prop := Claim7.holds Tryz.pinned (.plain (OpenSpec.upto fnTurnedGrowthSpec)) fnTurnedGrowthUptoCard
end Rows
end Go.Proofs.YtoodopepphhpoaaGreatDoor
