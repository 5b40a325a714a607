/- The row. -/
import Derived.Test.YtoodopepphhpoaaGreatDoorTtH
set_option linter.unusedVariables false
set_option linter.unusedSimpArgs false
set_option maxRecDepth 100000
set_option maxHeartbeats 16000000
namespace Go.Proofs.YtoodopepphhpoaaGreatDoor
section
open Go.ChangeShapes Go.WideShapes Go.ChangeAt Go.RowKit
theorem ttN:Tryz.pinned.checked.prog.funcNamed Rows.fnTightRow.func=some 3:=by kernel_rfl
theorem ttJ:joinedFacts Tryz.pinned.checked.prog 3 Tryz.f3 Rows.fnTightSpec Rows.fnTightRow=true:=by
 unfold joinedFacts
 repeat(with_reducible refine Bool.and_eq_true_iff.2 ⟨?_,by as_aux_lemma=>kernel_rfl⟩)
 as_aux_lemma=>kernel_rfl
theorem ttI:Tryz.f3.isInstance Tryz.pinned.checked.prog Rows.fnTightRow.origin Rows.fnTightRow.targs:=of_decide_eq_true V.g9
theorem ttW:Tryz.f3.isWrapper Tryz.pinned.checked.prog Rows.fnTightRow.wrapper Rows.fnTightRow.mainSum:=by
 unfold Func.isWrapper;first|(rw[if_pos (by decide+kernel)];kernel_rfl)|(rw[if_neg (by decide+kernel)];exact⟨rfl,rfl⟩)
theorem R1:Rows.fnTightRow.holds Tryz.pinned (OpenSpec.ofChange Rows.fnTightSpec):=
 OpenClaim.holds_of_wide 3 Tryz.f3 rfl rfl rfl rfl rfl rfl rfl ⟨rfl,rfl,rfl,rfl,rfl⟩ rfl rfl rfl rfl rfl ttN Tryz.func3 ttJ ttI ttW
  (fun os started H enc _=>LO os started H enc)
end
end Go.Proofs.YtoodopepphhpoaaGreatDoor
