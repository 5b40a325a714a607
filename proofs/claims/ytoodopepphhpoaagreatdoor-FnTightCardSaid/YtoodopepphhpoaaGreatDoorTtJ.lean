/- The card. -/
import Derived.Test.YtoodopepphhpoaaGreatDoorTtI
import Derived.Test.YtoodopepphhpoaaGreatDoorCards
import Derived.Test.YtoodopepphhpoaaGreatDoorTie
import Derived.SevenTiedAt
set_option linter.unusedVariables false
set_option linter.unusedSimpArgs false
set_option maxRecDepth 100000
set_option maxHeartbeats 16000000
namespace Go.Proofs.YtoodopepphhpoaaGreatDoor
section
open Go.ChangeShapes Go.WideShapes Go.ChangeAt Go.RowKit
theorem zf:Rows.FnTightCardSaid:=
 Claim7.holds_tied_plain_at .later [] [.sentinel,.sentinel] true Rows.fnTightCard.stood.harness true
  R1 (fun _ h=>by cases h) V.g9 (fun _ h=>by cases h) fnTight_row_tie rfl ⟨rfl,rfl⟩ V.g9 rfl
  (fun f fn hf SY=>by
   obtain rfl:f=3:=(Option.some.inj (ttN.symm.trans hf)).symm;obtain rfl:fn=Tryz.f3:=(Option.some.inj (Tryz.func3.symm.trans SY)).symm
   exact⟨by kernel_rfl,fun j t ht=>by
    rw[Tryz.params3]at ht;have hm:t∈[22,22]:=by simpa using Array.mem_of_getElem? ht
    have fy:([22,22].all fun u=> !Tryz.prog.wantsStandIn u)=true:=by kernel_rfl
    exact(show Tryz.prog.wantsStandIn t=false by simpa using List.all_eq_true.1 fy t hm)⟩)
  V.g9
#print axioms zf
end
end Go.Proofs.YtoodopepphhpoaaGreatDoor
