/- The card. -/
import Derived.Test.YtainmfbpilopaaaGreatDoorSqH
import Derived.Test.YtainmfbpilopaaaGreatDoorCards
import Derived.Test.YtainmfbpilopaaaGreatDoorTie
import Derived.SevenTiedAt
set_option linter.unusedVariables false
set_option linter.unusedSimpArgs false
set_option maxRecDepth 100000
set_option maxHeartbeats 16000000
namespace Go.Proofs.YtainmfbpilopaaaGreatDoor
open Go.ChangeShapes Go.WideShapes Go.ChangeAt Go.RowKit
theorem fnExactShapeOf_proved:Rows.FnExactShapeOfCardSaid:=
 Claim7.holds_tied_plain_at .later [] [.sentinel,.sentinel] true Rows.fnExactShapeOfCard.stood.harness true
  QZ (fun _ h=>by cases h) (by kernel_rfl) (fun _ h=>by cases h) fnExactShapeOf_row_tie rfl ⟨rfl,rfl⟩ (by kernel_rfl) rfl
  (fun f fn hf RH=>by
   obtain rfl:f=7:=(Option.some.inj (sqN.symm.trans hf)).symm
   obtain rfl:fn=Tryz.f7:=(Option.some.inj (Tryz.func7.symm.trans RH)).symm
   exact⟨by kernel_rfl,fun j t ht=>by
    rw[Tryz.params7]at ht
    have hm:t∈[81,40]:=by simpa using Array.mem_of_getElem? ht
    have ep:([81,40].all fun u=> !Tryz.prog.wantsStandIn u)=true:=by kernel_rfl
    exact(show Tryz.prog.wantsStandIn t=false by simpa using List.all_eq_true.1 ep t hm)⟩)
  (by kernel_rfl)
end Go.Proofs.YtainmfbpilopaaaGreatDoor
