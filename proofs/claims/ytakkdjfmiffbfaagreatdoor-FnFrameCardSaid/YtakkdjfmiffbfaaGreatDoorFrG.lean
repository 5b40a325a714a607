/- The row. -/
import Derived.Test.YtakkdjfmiffbfaaGreatDoorFrF
set_option linter.unusedVariables false
set_option linter.unusedSimpArgs false
set_option maxRecDepth 100000
set_option maxHeartbeats 16000000
namespace Go.Proofs.YtakkdjfmiffbfaaGreatDoor
open Go.ChangeShapes Go.WideShapes Go.ChangeAt Go.RowKit
theorem frN:Tryz.pinned.checked.prog.funcNamed Rows.fnFrameRow.func=some 3:=by kernel_rfl
theorem frJ:joinedFacts Tryz.pinned.checked.prog 3 Tryz.f3 Rows.fnFrameSpec Rows.fnFrameRow=true:=by
 unfold joinedFacts
 repeat(with_reducible refine Bool.and_eq_true_iff.2 ⟨?_,by as_aux_lemma=>kernel_rfl⟩)
 as_aux_lemma=>kernel_rfl
theorem frI:Tryz.f3.isInstance Tryz.pinned.checked.prog Rows.fnFrameRow.origin Rows.fnFrameRow.targs:=of_decide_eq_true (by kernel_rfl)
theorem frW:Tryz.f3.isWrapper Tryz.pinned.checked.prog Rows.fnFrameRow.wrapper Rows.fnFrameRow.mainSum:=by
 unfold Func.isWrapper;first|(rw[if_pos (by decide+kernel)];kernel_rfl)|(rw[if_neg (by decide+kernel)];exact⟨rfl,rfl⟩)
theorem Mm:Rows.fnFrameRow.holds Tryz.pinned (OpenSpec.ofChange Rows.fnFrameSpec):=
 OpenClaim.holds_of_wide 3 Tryz.f3 rfl rfl rfl rfl rfl rfl rfl ⟨rfl,rfl,rfl,rfl,rfl⟩ rfl rfl rfl rfl rfl frN Tryz.func3 frJ frI frW
  (fun os started H enc _=>GL os started H enc)
end Go.Proofs.YtakkdjfmiffbfaaGreatDoor
