/- The row. -/
import Derived.Test.YtalkncaokeaifaaGreatDoorWBF
set_option linter.unusedVariables false
set_option linter.unusedSimpArgs false
set_option maxRecDepth 100000
set_option maxHeartbeats 16000000
namespace Go.Proofs.YtalkncaokeaifaaGreatDoor
open Go.ChangeShapes Go.WideShapes Go.ChangeAt Go.RowKit
theorem btN:Tryz.pinned.checked.prog.funcNamed Rows.fnBlockTilesRow.func=some 3:=by kernel_rfl
theorem btJ:joinedFacts Tryz.pinned.checked.prog 3 Tryz.f3 Rows.fnBlockTilesSpec Rows.fnBlockTilesRow=true:=by
 unfold joinedFacts
 repeat(with_reducible refine Bool.and_eq_true_iff.2 ⟨?_,by as_aux_lemma=>kernel_rfl⟩)
 as_aux_lemma=>kernel_rfl
theorem btI:Tryz.f3.isInstance Tryz.pinned.checked.prog Rows.fnBlockTilesRow.origin Rows.fnBlockTilesRow.targs:=of_decide_eq_true (by kernel_rfl)
theorem btW:Tryz.f3.isWrapper Tryz.pinned.checked.prog Rows.fnBlockTilesRow.wrapper Rows.fnBlockTilesRow.mainSum:=by
 unfold Func.isWrapper;first|(rw[if_pos (by decide+kernel)];kernel_rfl)|(rw[if_neg (by decide+kernel)];exact⟨rfl,rfl⟩)
theorem MZ:Rows.fnBlockTilesRow.holds Tryz.pinned (OpenSpec.ofChange Rows.fnBlockTilesSpec):=
 OpenClaim.holds_of_wide 3 Tryz.f3 rfl rfl rfl rfl rfl rfl rfl ⟨rfl,rfl,rfl,rfl,rfl⟩ rfl rfl rfl rfl rfl btN Tryz.func3 btJ btI btW
  (fun os started H enc _=>G2 os started H enc)
end Go.Proofs.YtalkncaokeaifaaGreatDoor
