/- The card. -/
import Derived.Test.YtalkncaokeaifaaGreatDoorWBG
import Derived.Test.YtalkncaokeaifaaGreatDoorCards
import Derived.Test.YtalkncaokeaifaaGreatDoorTie
import Derived.SevenTiedAt
set_option linter.unusedVariables false
set_option linter.unusedSimpArgs false
set_option maxRecDepth 100000
set_option maxHeartbeats 16000000
namespace Go.Proofs.YtalkncaokeaifaaGreatDoor
open Go.ChangeShapes Go.WideShapes Go.ChangeAt Go.RowKit
theorem pL:Rows.FnBlockTilesCardSaid:=
 Claim7.holds_tied_plain_at .later [] [.data,.data,.data,.sentinel,.sentinel] true Rows.fnBlockTilesCard.stood.harness true
  MZ (fun _ h=>by cases h) (by kernel_rfl) (fun _ h=>by cases h) fnBlockTiles_row_tie rfl ⟨rfl,rfl⟩ (by kernel_rfl) rfl
  (fun f fn hf Pr=>by
   obtain rfl:f=3:=(Option.some.inj (btN.symm.trans hf)).symm
   obtain rfl:fn=Tryz.f3:=(Option.some.inj (Tryz.func3.symm.trans Pr)).symm
   exact⟨by kernel_rfl,fun j t ht=>by
    rw[Tryz.params3]at ht
    have hm:t∈[22,22]:=by simpa using Array.mem_of_getElem? ht
    have eI:([22,22].all fun u=> !Tryz.prog.wantsStandIn u)=true:=by kernel_rfl
    exact(show Tryz.prog.wantsStandIn t=false by simpa using List.all_eq_true.1 eI t hm)⟩)
  (by kernel_rfl)
#print axioms pL
end Go.Proofs.YtalkncaokeaifaaGreatDoor
