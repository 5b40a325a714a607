/-
  DERIVED. GIVEN WITH THE SEED: THE CARDS: each row of YtalkncaokeaifaaGreatDoorRows.lean that lists a variable, with what it lists TIED to the program's text (the seventh form; the later family's looks); each row that meets fmt, with fmt's text TOLD by the authors' own Lean function (tested against real Go, not proved from fmt's source: count such statements apart). THE CARD IS WHAT COUNTS. Prove the row's statement (the work); the ties are given (YtalkncaokeaifaaGreatDoorTie.lean); close each card by the builder's one call (the guide's Derived/Test/ToyasCard.lean, 'card_holds'). Laid BY PROGRAM, IN A SANDBOX (cutbox-door.mjs). By AI agents, Wed Nov 11 2026. No macro, syntax, notation, axiom, sorry.
-/
import Derived.Test.YtalkncaokeaifaaGreatDoorRows
import GoSem.ClaimSeven
namespace Go.Proofs.YtalkncaokeaifaaGreatDoor
namespace Rows

/-- THE TIED CARD OF 'laws.FnBlockTiles'. -/
def fnBlockTilesCard : Claim7 := { stood := { row := fnBlockTilesRow, standIns := [], harness := (true, "8b45983678887c17479a4978453638fe39a4172e94f10004f67334544a1bcc13"), looks := true }, kinds := [], alts := [], laidByText := true, laidKinds := [.data, .data, .data, .sentinel, .sentinel], laidTests := true, laidLooks := .later }
def FnBlockTilesCardSaid : Prop := Claim7.holds Tryz.pinned (.plain (OpenSpec.ofChange fnBlockTilesSpec)) fnBlockTilesCard

/-- THE TIED CARD OF 'laws.FnRule'. -/
def fnRuleCard : Claim7 := { stood := { row := fnRuleRow, standIns := [], harness := (true, "8b45983678887c17479a4978453638fe39a4172e94f10004f67334544a1bcc13"), looks := true }, kinds := [], alts := [], laidByText := true, laidKinds := [.data, .data, .data, .sentinel, .sentinel], laidTests := true, laidLooks := .later }
def FnRuleCardSaid : Prop := Claim7.holds Tryz.pinned (.plain (OpenSpec.ofChange fnRuleSpec)) fnRuleCard

/-- THE SECOND FORM's CARD OF 'laws.FnBlockTiles'. -/
def fnBlockTilesUptoCard : Claim7 := { stood := { row := fnBlockTilesUptoRow, standIns := [], harness := (true, "8b45983678887c17479a4978453638fe39a4172e94f10004f67334544a1bcc13"), looks := true }, kinds := [], alts := [], laidByText := true, laidKinds := [.data, .data, .data, .sentinel, .sentinel], laidTests := true, laidLooks := .later }
def FnBlockTilesUptoCardSaid : Prop := Claim7.holds Tryz.pinned (.plain (OpenSpec.upto fnBlockTilesSpec)) fnBlockTilesUptoCard

/-- THE SECOND FORM's CARD OF 'laws.FnRule'. -/
def fnRuleUptoCard : Claim7 := { stood := { row := fnRuleUptoRow, standIns := [], harness := (true, "8b45983678887c17479a4978453638fe39a4172e94f10004f67334544a1bcc13"), looks := true }, kinds := [], alts := [], laidByText := true, laidKinds := [.data, .data, .data, .sentinel, .sentinel], laidTests := true, laidLooks := .later }
def FnRuleUptoCardSaid : Prop := Claim7.holds Tryz.pinned (.plain (OpenSpec.upto fnRuleSpec)) fnRuleUptoCard
end Rows
end Go.Proofs.YtalkncaokeaifaaGreatDoor
