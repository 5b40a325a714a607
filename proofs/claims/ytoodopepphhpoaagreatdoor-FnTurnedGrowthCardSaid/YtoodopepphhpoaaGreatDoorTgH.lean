/- The row. -/
import Derived.Test.YtoodopepphhpoaaGreatDoorTgG
set_option linter.unusedVariables false
set_option linter.unusedSimpArgs false
set_option maxRecDepth 100000
set_option maxHeartbeats 16000000
namespace Go.Proofs.YtoodopepphhpoaaGreatDoor
open Go.ChangeShapes Go.WideShapes Go.ChangeAt Go.RowKit
theorem tgN:Tryz.pinned.checked.prog.funcNamed Rows.fnTurnedGrowthRow.func=some 4:=by kernel_rfl
theorem tgJ:joinedFacts Tryz.pinned.checked.prog 4 Tryz.f4 Rows.fnTurnedGrowthSpec Rows.fnTurnedGrowthRow=true:=by
 unfold joinedFacts
 repeat(with_reducible refine Bool.and_eq_true_iff.2 ⟨?_,by as_aux_lemma=>kernel_rfl⟩)
 as_aux_lemma=>kernel_rfl
theorem tgI:Tryz.f4.isInstance Tryz.pinned.checked.prog Rows.fnTurnedGrowthRow.origin Rows.fnTurnedGrowthRow.targs:=of_decide_eq_true (by kernel_rfl)
theorem tgW:Tryz.f4.isWrapper Tryz.pinned.checked.prog Rows.fnTurnedGrowthRow.wrapper Rows.fnTurnedGrowthRow.mainSum:=by
 unfold Func.isWrapper;first|(rw[if_pos (by decide+kernel)];kernel_rfl)|(rw[if_neg (by decide+kernel)];exact⟨rfl,rfl⟩)
theorem Sh:Rows.fnTurnedGrowthRow.holds Tryz.pinned (OpenSpec.ofChange Rows.fnTurnedGrowthSpec):=
 OpenClaim.holds_of_wide 4 Tryz.f4 rfl rfl rfl rfl rfl rfl rfl ⟨rfl,rfl,rfl,rfl,rfl⟩ rfl rfl rfl rfl rfl tgN Tryz.func4 tgJ tgI tgW
  (fun os started H enc _=>L6 os started H enc)
end Go.Proofs.YtoodopepphhpoaaGreatDoor
