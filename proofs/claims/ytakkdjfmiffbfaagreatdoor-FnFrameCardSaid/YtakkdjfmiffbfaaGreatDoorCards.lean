/-
  DERIVED. GIVEN WITH THE SEED: THE CARDS: each row of YtakkdjfmiffbfaaGreatDoorRows.lean that lists a variable, with what it lists TIED to the program's text (the seventh form; the later family's looks); each row that meets fmt, with fmt's text TOLD by the authors' own Lean function (tested against real Go, not proved from fmt's source: count such statements apart). THE CARD IS WHAT COUNTS. Prove the row's statement (the work); the ties are given (YtakkdjfmiffbfaaGreatDoorTie.lean); close each card by the builder's one call (the guide's Derived/Test/ToyasCard.lean, 'card_holds'). Laid BY PROGRAM, IN A SANDBOX (cutbox-door.mjs). By AI agents, Wed Nov 11 2026. No macro, syntax, notation, axiom, sorry.
-/
import Derived.Test.YtakkdjfmiffbfaaGreatDoorRows
import GoSem.ClaimSeven
namespace Go.Proofs.YtakkdjfmiffbfaaGreatDoor
namespace Rows

/-- THE TIED CARD OF 'laws.FnFrame'. -/
def fnFrameCard : Claim7 := { stood := { row := fnFrameRow, standIns := [], harness := (true, "bbc2a3d8923b468506319a6964d4e57f1882d7830177337f53592eef8885b7ff"), looks := true }, kinds := [], alts := [], laidByText := true, laidKinds := [.data, .data, .data, .sentinel, .sentinel], laidTests := true, laidLooks := .later }
def FnFrameCardSaid : Prop := Claim7.holds Tryz.pinned (.plain (OpenSpec.ofChange fnFrameSpec)) fnFrameCard

/-- THE TIED CARD OF 'laws.FnExactSystemText'. -/
def fnExactSystemTextCard : Claim7 := { stood := { row := fnExactSystemTextRow, standIns := [], harness := (true, "bbc2a3d8923b468506319a6964d4e57f1882d7830177337f53592eef8885b7ff"), looks := true }, kinds := [], alts := [], laidByText := true, laidKinds := [.data, .data, .data], laidTests := true, laidLooks := .later }
def FnExactSystemTextCardSaid : Prop := Claim7.holds Tryz.pinned (.plain (OpenSpec.ofChange fnExactSystemTextSpec)) fnExactSystemTextCard

/-- THE SECOND FORM's CARD OF 'laws.FnFrame'. -/
def fnFrameUptoCard : Claim7 := { stood := { row := fnFrameUptoRow, standIns := [], harness := (true, "bbc2a3d8923b468506319a6964d4e57f1882d7830177337f53592eef8885b7ff"), looks := true }, kinds := [], alts := [], laidByText := true, laidKinds := [.data, .data, .data, .sentinel, .sentinel], laidTests := true, laidLooks := .later }
def FnFrameUptoCardSaid : Prop := Claim7.holds Tryz.pinned (.plain (OpenSpec.upto fnFrameSpec)) fnFrameUptoCard

/-- THE SECOND FORM's CARD OF 'laws.FnExactSystemText'. -/
def fnExactSystemTextUptoCard : Claim7 := { stood := { row := fnExactSystemTextUptoRow, standIns := [], harness := (true, "bbc2a3d8923b468506319a6964d4e57f1882d7830177337f53592eef8885b7ff"), looks := true }, kinds := [], alts := [], laidByText := true, laidKinds := [.data, .data, .data], laidTests := true, laidLooks := .later }
def FnExactSystemTextUptoCardSaid : Prop := Claim7.holds Tryz.pinned (.plain (OpenSpec.upto fnExactSystemTextSpec)) fnExactSystemTextUptoCard
end Rows
end Go.Proofs.YtakkdjfmiffbfaaGreatDoor
