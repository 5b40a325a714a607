/- The row. -/
import Derived.Test.YtainmfbpilopaaaGreatDoorSqG
set_option linter.unusedVariables false
set_option linter.unusedSimpArgs false
set_option maxRecDepth 100000
set_option maxHeartbeats 16000000
namespace Go.Proofs.YtainmfbpilopaaaGreatDoor
open Go.ChangeShapes Go.WideShapes Go.ChangeAt Go.RowKit
theorem sqN:Tryz.pinned.checked.prog.funcNamed Rows.fnExactShapeOfRow.func=some 7:=by kernel_rfl
theorem sqJ:joinedFacts Tryz.pinned.checked.prog 7 Tryz.f7 Rows.fnExactShapeOfSpec Rows.fnExactShapeOfRow=true:=by
 unfold joinedFacts
 repeat(with_reducible refine Bool.and_eq_true_iff.2 ⟨?_,by as_aux_lemma=>kernel_rfl⟩)
 as_aux_lemma=>kernel_rfl
theorem sqI:Tryz.f7.isInstance Tryz.pinned.checked.prog Rows.fnExactShapeOfRow.origin Rows.fnExactShapeOfRow.targs:=of_decide_eq_true (by kernel_rfl)
theorem sqW:Tryz.f7.isWrapper Tryz.pinned.checked.prog Rows.fnExactShapeOfRow.wrapper Rows.fnExactShapeOfRow.mainSum:=by
 unfold Func.isWrapper;first|(rw[if_pos (by decide+kernel)];kernel_rfl)|(rw[if_neg (by decide+kernel)];exact⟨rfl,rfl⟩)
theorem QZ:Rows.fnExactShapeOfRow.holds Tryz.pinned (OpenSpec.ofChange Rows.fnExactShapeOfSpec):=
 OpenClaim.holds_of_wide 7 Tryz.f7 rfl rfl rfl rfl rfl rfl rfl ⟨rfl,rfl,rfl,rfl,rfl⟩ rfl rfl rfl rfl rfl sqN Tryz.func7 sqJ sqI sqW
  (fun os started H enc _=>KU os started H enc)
end Go.Proofs.YtainmfbpilopaaaGreatDoor
