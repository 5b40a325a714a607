/- The row. -/
import Derived.Test.YtainmfbpilopaaaGreatDoorGnG
set_option linter.unusedVariables false
set_option linter.unusedSimpArgs false
set_option maxRecDepth 100000
set_option maxHeartbeats 16000000
namespace Go.Proofs.YtainmfbpilopaaaGreatDoor
open Go.ChangeShapes Go.WideShapes Go.ChangeAt Go.RowKit
theorem gnN:Tryz.pinned.checked.prog.funcNamed Rows.fnGrownRow.func=some 6:=by kernel_rfl
theorem gnJ:joinedFacts Tryz.pinned.checked.prog 6 Tryz.f6 Rows.fnGrownSpec Rows.fnGrownRow=true:=by
 unfold joinedFacts
 repeat(with_reducible refine Bool.and_eq_true_iff.2 ⟨?_,by as_aux_lemma=>kernel_rfl⟩)
 as_aux_lemma=>kernel_rfl
theorem gnI:Tryz.f6.isInstance Tryz.pinned.checked.prog Rows.fnGrownRow.origin Rows.fnGrownRow.targs:=of_decide_eq_true (by kernel_rfl)
theorem gnW:Tryz.f6.isWrapper Tryz.pinned.checked.prog Rows.fnGrownRow.wrapper Rows.fnGrownRow.mainSum:=by
 unfold Func.isWrapper;first|(rw[if_pos (by decide+kernel)];kernel_rfl)|(rw[if_neg (by decide+kernel)];exact⟨rfl,rfl⟩)
theorem PO:Rows.fnGrownRow.holds Tryz.pinned (OpenSpec.ofChange Rows.fnGrownSpec):=
 OpenClaim.holds_of_wide 6 Tryz.f6 rfl rfl rfl rfl rfl rfl rfl ⟨rfl,rfl,rfl,rfl,rfl⟩ rfl rfl rfl rfl rfl gnN Tryz.func6 gnJ gnI gnW
  (fun os started H enc _=>Kc os started H enc)
end Go.Proofs.YtainmfbpilopaaaGreatDoor
