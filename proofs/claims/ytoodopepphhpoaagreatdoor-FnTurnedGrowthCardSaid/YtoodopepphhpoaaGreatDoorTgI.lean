/- The card. -/
import Derived.Test.YtoodopepphhpoaaGreatDoorTgH
import Derived.Test.YtoodopepphhpoaaGreatDoorCards
import Derived.Test.YtoodopepphhpoaaGreatDoorTie
import Derived.SevenTiedAt
set_option linter.unusedVariables false
set_option linter.unusedSimpArgs false
set_option maxRecDepth 100000
set_option maxHeartbeats 16000000
namespace Go.Proofs.YtoodopepphhpoaaGreatDoor
open Go.ChangeShapes Go.WideShapes Go.ChangeAt Go.RowKit
theorem qC:Rows.FnTurnedGrowthCardSaid:=
 Claim7.holds_tied_plain_at .later [] [.sentinel,.sentinel] true Rows.fnTurnedGrowthCard.stood.harness true
  Sh (fun _ h=>by cases h) (by kernel_rfl) (fun _ h=>by cases h) fnTurnedGrowth_row_tie rfl ⟨rfl,rfl⟩ (by kernel_rfl) rfl
  (fun f fn hf S8=>by
   obtain rfl:f=4:=(Option.some.inj (tgN.symm.trans hf)).symm
   obtain rfl:fn=Tryz.f4:=(Option.some.inj (Tryz.func4.symm.trans S8)).symm
   exact⟨by kernel_rfl,fun j t ht=>by
    rw[Tryz.params4]at ht
    have hm:t∈[22]:=by simpa using Array.mem_of_getElem? ht
    have eR:([22].all fun u=> !Tryz.prog.wantsStandIn u)=true:=by kernel_rfl
    exact(show Tryz.prog.wantsStandIn t=false by simpa using List.all_eq_true.1 eR t hm)⟩)
  (by kernel_rfl)
#print axioms qC
end Go.Proofs.YtoodopepphhpoaaGreatDoor
