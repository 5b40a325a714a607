/- The card. -/
import Derived.Test.YtainmfbpilopaaaGreatDoorGnH
import Derived.Test.YtainmfbpilopaaaGreatDoorCards
import Derived.Test.YtainmfbpilopaaaGreatDoorTie
import Derived.SevenTiedAt
set_option linter.unusedVariables false
set_option linter.unusedSimpArgs false
set_option maxRecDepth 100000
set_option maxHeartbeats 16000000
namespace Go.Proofs.YtainmfbpilopaaaGreatDoor
open Go.ChangeShapes Go.WideShapes Go.ChangeAt Go.RowKit
theorem yQ:Rows.FnGrownCardSaid:=
 Claim7.holds_tied_plain_at .later [] [.sentinel,.sentinel] true Rows.fnGrownCard.stood.harness true
  PO (fun _ h=>by cases h) (by kernel_rfl) (fun _ h=>by cases h) fnGrown_row_tie rfl ⟨rfl,rfl⟩ (by kernel_rfl) rfl
  (fun f fn hf RG=>by
   obtain rfl:f=6:=(Option.some.inj (gnN.symm.trans hf)).symm
   obtain rfl:fn=Tryz.f6:=(Option.some.inj (Tryz.func6.symm.trans RG)).symm
   exact⟨by kernel_rfl,fun j t ht=>by
    rw[Tryz.params6]at ht
    have hm:t∈[22,22]:=by simpa using Array.mem_of_getElem? ht
    have eJ:([22,22].all fun u=> !Tryz.prog.wantsStandIn u)=true:=by kernel_rfl
    exact(show Tryz.prog.wantsStandIn t=false by simpa using List.all_eq_true.1 eJ t hm)⟩)
  (by kernel_rfl)
#print axioms yQ
end Go.Proofs.YtainmfbpilopaaaGreatDoor
