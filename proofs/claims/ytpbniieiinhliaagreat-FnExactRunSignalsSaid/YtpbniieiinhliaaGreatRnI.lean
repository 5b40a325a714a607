/- The reference's cells. -/
import Derived.Test.YtpbniieiinhliaaGreatRnH
set_option linter.unusedVariables false
set_option linter.unusedSimpArgs false
namespace Go.Proofs.YtpbniieiinhliaaGreat.V
open Go.RowKit
attribute [local irreducible] wpv wpOps PCx Call
attribute [local go_sem] wantedV vop qop eop vis evO upd envOf K.av boxOf AV.cells AV.cell rowOf rowsOf part ld rowAt setR killR ibin vbin vsh vclear vsbin sbin eq1 eqL xorB vnil vnilS vnilF hiOf loOf vslice vsliceS viaddr vidxS vidxA vlen vnot vneg vconv vconvS vpick vchk vfield vextract vlenS fillV vmk rowsIn putCs vstore vappend seqQ blockQ most AV.undef callW locP locQ List.getD_cons_zero List.getD_cons_succ List.getD_nil List.all_cons List.all_nil Bool.and_true Bool.true_and Bool.and_self Bool.not_true Bool.not_false Option.map_some Option.map_none Option.bind_some Option.bind_none List.length_cons List.length_nil List.take_succ_cons List.take_zero List.take_nil List.drop_succ_cons List.drop_zero List.drop_nil List.head?_cons List.map_cons List.map_nil List.getElem?_cons_zero List.getElem?_cons_succ List.cons_append List.nil_append List.append_nil List.length_map List.set_cons_zero List.set_cons_succ Nat.reduceMul eq_self Int.toNat_natCast Int.natCast_nonneg and_self true_and and_true decide_true decide_false Bool.false_eq_true Nat.zero_add Nat.add_zero List.contains_cons List.contains_nil Bool.or_false Bool.false_or beq_self_eq_true Nat.reduceBEq ne_eq not_true_eq_false not_false_eq_true Id.mk.injEq false_and and_false Nat.reduceLT Int.reduceLE Int.reduceLT Int.reduceToNat Int.reduceNeg Int.reduceAdd Nat.le_refl List.length_append beq_true beq_false Bool.not_eq_eq_eq_not or_false false_or rw_ fzRow_cons fzRow_nil fz_int fz_bool fz_str fz_sl fz_nils fz_agg fz_iptr fz_ptrE fz_fn

set_option maxRecDepth 100000 in
set_option maxHeartbeats 4000000 in
theorem l31Index_v (cells : List D_SignalCell) (p : D_Point) : RetS Tryz.prog 66 [.sl (cells.map eCell), .agg (ePoint p)] (.int .i64 (idxI cells p)) := by
  refine RetS.body cfE rfl fun hl n0 => ?_
  have hn : cells.length ≤ 9223372036854775807 := by simpa using (hl (.sl (cells.map eCell)) (by simp)).len
  (try ((repeat (revert hN; revert N; apply Pn.out)); refine wk @ePoint.eq_1 ?_; (repeat (refine Pn.mk ?_; intro N hN))))
  refine w_loopC (fun n env s => ∃ k : Nat, n = cells.length - k ∧ k ≤ cells.length ∧ (∀ j (h : j < cells.length), j < k → cells[j].g_At ≠ p) ∧ env 0 = .sl (cells.map eCell) ∧ env 3 = .ptr ⟨66000000, n0⟩ 0 0 ∧ env 5 = .int .i64 k ∧ s.get ⟨66000000, n0⟩ = some ⟨true, 2, [ePoint p]⟩) cells.length ⟨0, by omega, by omega, fun j h hj => by omega, rfl, rfl, rfl, sd @ePoint.eq_1⟩ ?_
  rintro n env s ⟨k, rfl, hk, hne, h0, h3, h5, hg⟩
  by_cases hlt : k < cells.length
  · have hlt' : (k : Int) < (cells.length : Int) := by omega
    have hget : (cells.map eCell)[k]? = some (eCell cells[k]) := by simp [hlt]
    by_cases hp : cells[k].g_At = p
    · have e1 : cells[k].g_At.g_X = p.g_X := by rw [hp]
      have e2 : cells[k].g_At.g_Y = p.g_Y := by rw [hp]
      (try ((repeat (revert hN; revert N; apply Pn.out)); refine wk (tw @h0 (tw @h3 (tw @h5 (tw @hg (tw @hlt' (tw @hget (tw @eCell.eq_1 (tw @ePoint.eq_1 (tw @e1 @e2))))))))) ?_; (repeat (refine Pn.mk ?_; intro N hN))))
      refine ret1Si (b := k) (.inl rfl) (sd @Nat.zero_add) ?_
      have hf : idxN cells p = k := by
        rw [idxN, List.findIdx_eq hlt]; exact ⟨by simpa using hp, fun j hj => by simpa using hne j (by omega) hj⟩
      rw [idxI, hf, if_pos hlt]
    · have e1 : (decide (cells[k].g_At.g_X = p.g_X) && decide (cells[k].g_At.g_Y = p.g_Y)) = false := by rw [pt_eq]; exact decide_eq_false hp
      (try ((repeat (revert hN; revert N; apply Pn.out)); refine wk (tw @h0 (tw @h3 (tw @h5 (tw @hg (tw @hlt' (tw @hget (tw @eCell.eq_1 (tw @ePoint.eq_1 @e1)))))))) ?_; (repeat (refine Pn.mk ?_; intro N hN))))
      refine ⟨_, ?_, k + 1, rfl, by omega, fun j h hj => ?_, ?_, ?_, ?_, ?_⟩
      · omega
      · by_cases hjk : j = k
        · subst hjk; exact hp
        · exact hne j h (by omega)
      · simp only [go_sem, ↓reduceIte, Nat.reduceEqDiff, Nat.reduceAdd, Nat.reduceSub, Nat.reduceLeDiff, reduceCtorEq, h0]
      · simp only [go_sem, ↓reduceIte, Nat.reduceEqDiff, Nat.reduceAdd, Nat.reduceSub, Nat.reduceLeDiff, reduceCtorEq, h3]
      · simp only [go_sem, ↓reduceIte, Nat.reduceEqDiff, Nat.reduceAdd, Nat.reduceSub, Nat.reduceLeDiff, reduceCtorEq, wrap_succ hlt hn]
      · simp only [go_sem, ↓reduceIte, Nat.reduceEqDiff, Nat.reduceAdd, Nat.reduceSub, Nat.reduceLeDiff, reduceCtorEq, hg, ePoint]
  · have hlt' : ¬ (k : Int) < (cells.length : Int) := by omega
    (try ((repeat (revert hN; revert N; apply Pn.out)); refine wk (tw @h0 (tw @h3 (tw @h5 (tw @hg @hlt')))) ?_; (repeat (refine Pn.mk ?_; intro N hN))))
    refine ret1Si (.inl rfl) (b := -1) ?_ ?_
    · simp only [go_sem, ↓reduceIte, Nat.reduceEqDiff, Nat.reduceAdd, Nat.reduceSub, Nat.reduceLeDiff, reduceCtorEq]
    have hf : ¬ idxN cells p < cells.length := by
      rw [idxN, List.findIdx_lt_length]
      rintro ⟨c, hc, h⟩
      obtain ⟨j, hj, rfl⟩ := List.getElem_of_mem hc
      exact hne j hj (by omega) (by simpa using h)
    rw [idxI, if_neg hf]

/-- Whether a cell meets its neighbour in a direction. -/
def meetsB (s : D_SignalSet) (cells : List D_SignalCell) (c : D_SignalCell) (d : Int) : Bool :=
  if h : idxN cells (stepP c.g_At d) < cells.length then
    let n := cells[idxN cells (stepP c.g_At d)]
    decide (0 < sideOf (tileAt s c.g_Tile) d) && (decide (sideOf (tileAt s c.g_Tile) d = sideOf (tileAt s n.g_Tile) (oppI d)) && (bAt c.g_On d && bAt n.g_On (oppI d)))
  else false

set_option maxRecDepth 100000 in
set_option maxHeartbeats 4000000 in
theorem l31Meets_v (s : D_SignalSet) (cells : List D_SignalCell) (i : Nat) (hi : i < cells.length) (d : Int) (hd : inB d 0 3 = true) (hS : SetForm s) (hF : ∀ c ∈ cells, FormOk s c) :
    RetS Tryz.prog 84 [.iptr (eSet s), .sl (cells.map eCell), .int .i64 i, .int .i64 d] (.tup [.int .i64 (idxI cells (stepP cells[i].g_At d)), .bool (meetsB s cells cells[i] d)]) := by
  refine RetS.body cfE rfl fun hl n0 => ?_
  have hgi : (cells.map eCell)[i]? = some (eCell cells[i]) := by simp [hi]
  have fi := hF _ (List.getElem_mem hi)
  obtain ⟨bx, by_⟩ := iB_of fi.at_
  by_cases hk : idxN cells (stepP cells[i].g_At d) < cells.length
  · have hidx : idxI cells (stepP cells[i].g_At d) = (idxN cells (stepP cells[i].g_At d) : Int) := if_pos hk
    have hnn : ¬ ((idxN cells (stepP cells[i].g_At d) : Int) < 0) := by omega
    have hgk : (cells.map eCell)[idxN cells (stepP cells[i].g_At d)]? = some (eCell cells[idxN cells (stepP cells[i].g_At d)]) := by simp [hk]
    have fk := hF _ (List.getElem_mem hk)
    have hm : meetsB s cells cells[i] d = (decide (0 < sideOf (tileAt s cells[i].g_Tile) d) && (decide (sideOf (tileAt s cells[i].g_Tile) d = sideOf (tileAt s cells[idxN cells (stepP cells[i].g_At d)].g_Tile) (oppI d)) && (bAt cells[i].g_On d && bAt cells[idxN cells (stepP cells[i].g_At d)].g_On (oppI d)))) := dif_pos hk
    have q1 := fi.t0
    have q2 := fi.tile
    have q3 := side_get (hS _ (tile_mem fi.t0 fi.t1)) hd
    have q4 := (inB_true hd).1
    have q5 := fk.t0
    have q6 := fk.tile
    have ho := opp_in hd
    have q7 := side_get (hS _ (tile_mem fk.t0 fk.t1)) ho
    have q8 := (inB_true ho).1
    have q9 := bool_get fi.on hd
    have q10 := bool_get fk.on ho
    by_cases hA : 0 < sideOf (tileAt s cells[i].g_Tile) d
    case neg =>
      (repeat (first | ((repeat (revert hN; revert N; apply Pn.out)); refine wk (tw @hgi (tw @eCell.eq_1 (tw @eSet.eq_1 (tw @eTile.eq_1 (tw @eInt.eq_1 (tw @eBool.eq_1 (tw @ePoint.eq_1 (tw @hidx (tw @hnn (tw @hgk (tw @q1 (tw @q2 (tw @q3 (tw @q4 (tw @q5 (tw @q6 (tw @q7 (tw @q8 (tw @q9 (tw @q10 @hA)))))))))))))))))))) ?_; (repeat (refine Pn.mk ?_; intro N hN))) | ((try apply Or.inl); refine ⟨_, Ret.x (l01Step_v _ _ bx by_) _, ?_⟩; refine hN _ _ ?_; clear hN N) | ((try apply Or.inl); refine ⟨_, RetS.x (l31Index_v cells (stepP cells[i].g_At d)) (sd (tw @hgi (tw @eCell.eq_1 (tw @eSet.eq_1 (tw @eTile.eq_1 (tw @eInt.eq_1 (tw @eBool.eq_1 (tw @ePoint.eq_1 (tw @hidx (tw @hnn (tw @hgk (tw @q1 (tw @q2 (tw @q3 (tw @q4 (tw @q5 (tw @q6 (tw @q7 (tw @q8 (tw @q9 (tw @q10 @hA))))))))))))))))))))), ?_⟩; refine hN _ _ ?_; clear hN N) | ((try apply Or.inl); refine ⟨_, Ret.x (Opposite_v _) _, ?_⟩; refine hN _ _ ?_; clear hN N)))
      refine ret2S (.inl rfl) (r1 := .int .i64 (idxN cells (stepP cells[i].g_At d))) (r2 := .bool false) ?_ ?_ ?_
      · simp only [go_sem, ↓reduceIte, Nat.reduceEqDiff, Nat.reduceAdd, Nat.reduceSub, Nat.reduceLeDiff, reduceCtorEq]
      · simp only [go_sem, ↓reduceIte, Nat.reduceEqDiff, Nat.reduceAdd, Nat.reduceSub, Nat.reduceLeDiff, reduceCtorEq]
      · simp only [fzS_tup, fzSRow_cons, fzSRow_nil, fzS_int, fzS_bool, Option.map_some, hidx, hm, hA]; simp
    by_cases hB : sideOf (tileAt s cells[i].g_Tile) d = sideOf (tileAt s cells[idxN cells (stepP cells[i].g_At d)].g_Tile) (oppI d)
    case neg =>
      (repeat (first | ((repeat (revert hN; revert N; apply Pn.out)); refine wk (tw @hgi (tw @eCell.eq_1 (tw @eSet.eq_1 (tw @eTile.eq_1 (tw @eInt.eq_1 (tw @eBool.eq_1 (tw @ePoint.eq_1 (tw @hidx (tw @hnn (tw @hgk (tw @q1 (tw @q2 (tw @q3 (tw @q4 (tw @q5 (tw @q6 (tw @q7 (tw @q8 (tw @q9 (tw @q10 (tw @hA @hB))))))))))))))))))))) ?_; (repeat (refine Pn.mk ?_; intro N hN))) | ((try apply Or.inl); refine ⟨_, Ret.x (l01Step_v _ _ bx by_) _, ?_⟩; refine hN _ _ ?_; clear hN N) | ((try apply Or.inl); refine ⟨_, RetS.x (l31Index_v cells (stepP cells[i].g_At d)) (sd (tw @hgi (tw @eCell.eq_1 (tw @eSet.eq_1 (tw @eTile.eq_1 (tw @eInt.eq_1 (tw @eBool.eq_1 (tw @ePoint.eq_1 (tw @hidx (tw @hnn (tw @hgk (tw @q1 (tw @q2 (tw @q3 (tw @q4 (tw @q5 (tw @q6 (tw @q7 (tw @q8 (tw @q9 (tw @q10 (tw @hA @hB)))))))))))))))))))))), ?_⟩; refine hN _ _ ?_; clear hN N) | ((try apply Or.inl); refine ⟨_, Ret.x (Opposite_v _) _, ?_⟩; refine hN _ _ ?_; clear hN N)))
      refine ret2S (.inl rfl) (r1 := .int .i64 (idxN cells (stepP cells[i].g_At d))) (r2 := .bool false) ?_ ?_ ?_
      · simp only [go_sem, ↓reduceIte, Nat.reduceEqDiff, Nat.reduceAdd, Nat.reduceSub, Nat.reduceLeDiff, reduceCtorEq]
      · simp only [go_sem, ↓reduceIte, Nat.reduceEqDiff, Nat.reduceAdd, Nat.reduceSub, Nat.reduceLeDiff, reduceCtorEq]
      · simp only [fzS_tup, fzSRow_cons, fzSRow_nil, fzS_int, fzS_bool, Option.map_some, hidx, hm, hA, hB]; simp
    have hB' : (decide (sideOf (tileAt s cells[i].g_Tile) d = sideOf (tileAt s cells[idxN cells (stepP cells[i].g_At d)].g_Tile) (oppI d))) = true := decide_eq_true hB
    cases hC : bAt cells[i].g_On d
    · (repeat (first | ((repeat (revert hN; revert N; apply Pn.out)); refine wk (tw @hgi (tw @eCell.eq_1 (tw @eSet.eq_1 (tw @eTile.eq_1 (tw @eInt.eq_1 (tw @eBool.eq_1 (tw @ePoint.eq_1 (tw @hidx (tw @hnn (tw @hgk (tw @q1 (tw @q2 (tw @q3 (tw @q4 (tw @q5 (tw @q6 (tw @q7 (tw @q8 (tw @q9 (tw @q10 (tw @hA (tw @hB' @hC)))))))))))))))))))))) ?_; (repeat (refine Pn.mk ?_; intro N hN))) | ((try apply Or.inl); refine ⟨_, Ret.x (l01Step_v _ _ bx by_) _, ?_⟩; refine hN _ _ ?_; clear hN N) | ((try apply Or.inl); refine ⟨_, RetS.x (l31Index_v cells (stepP cells[i].g_At d)) (sd (tw @hgi (tw @eCell.eq_1 (tw @eSet.eq_1 (tw @eTile.eq_1 (tw @eInt.eq_1 (tw @eBool.eq_1 (tw @ePoint.eq_1 (tw @hidx (tw @hnn (tw @hgk (tw @q1 (tw @q2 (tw @q3 (tw @q4 (tw @q5 (tw @q6 (tw @q7 (tw @q8 (tw @q9 (tw @q10 (tw @hA (tw @hB' @hC))))))))))))))))))))))), ?_⟩; refine hN _ _ ?_; clear hN N) | ((try apply Or.inl); refine ⟨_, Ret.x (Opposite_v _) _, ?_⟩; refine hN _ _ ?_; clear hN N)))
      refine ret2S (.inl rfl) (r1 := .int .i64 (idxN cells (stepP cells[i].g_At d))) (r2 := .bool false) ?_ ?_ ?_
      · simp only [go_sem, ↓reduceIte, Nat.reduceEqDiff, Nat.reduceAdd, Nat.reduceSub, Nat.reduceLeDiff, reduceCtorEq]
      · simp only [go_sem, ↓reduceIte, Nat.reduceEqDiff, Nat.reduceAdd, Nat.reduceSub, Nat.reduceLeDiff, reduceCtorEq]
      · simp only [fzS_tup, fzSRow_cons, fzSRow_nil, fzS_int, fzS_bool, Option.map_some, hidx, hm, hA, hB', hC]; simp
    · (repeat (first | ((repeat (revert hN; revert N; apply Pn.out)); refine wk (tw @hgi (tw @eCell.eq_1 (tw @eSet.eq_1 (tw @eTile.eq_1 (tw @eInt.eq_1 (tw @eBool.eq_1 (tw @ePoint.eq_1 (tw @hidx (tw @hnn (tw @hgk (tw @q1 (tw @q2 (tw @q3 (tw @q4 (tw @q5 (tw @q6 (tw @q7 (tw @q8 (tw @q9 (tw @q10 (tw @hA (tw @hB' @hC)))))))))))))))))))))) ?_; (repeat (refine Pn.mk ?_; intro N hN))) | ((try apply Or.inl); refine ⟨_, Ret.x (l01Step_v _ _ bx by_) _, ?_⟩; refine hN _ _ ?_; clear hN N) | ((try apply Or.inl); refine ⟨_, RetS.x (l31Index_v cells (stepP cells[i].g_At d)) (sd (tw @hgi (tw @eCell.eq_1 (tw @eSet.eq_1 (tw @eTile.eq_1 (tw @eInt.eq_1 (tw @eBool.eq_1 (tw @ePoint.eq_1 (tw @hidx (tw @hnn (tw @hgk (tw @q1 (tw @q2 (tw @q3 (tw @q4 (tw @q5 (tw @q6 (tw @q7 (tw @q8 (tw @q9 (tw @q10 (tw @hA (tw @hB' @hC))))))))))))))))))))))), ?_⟩; refine hN _ _ ?_; clear hN N) | ((try apply Or.inl); refine ⟨_, Ret.x (Opposite_v _) _, ?_⟩; refine hN _ _ ?_; clear hN N)))
      refine ret2S (.inl rfl) (r1 := .int .i64 (idxN cells (stepP cells[i].g_At d))) (r2 := .bool (bAt cells[idxN cells (stepP cells[i].g_At d)].g_On (oppI d))) ?_ ?_ ?_
      · simp only [go_sem, ↓reduceIte, Nat.reduceEqDiff, Nat.reduceAdd, Nat.reduceSub, Nat.reduceLeDiff, reduceCtorEq]
      · simp only [go_sem, ↓reduceIte, Nat.reduceEqDiff, Nat.reduceAdd, Nat.reduceSub, Nat.reduceLeDiff, reduceCtorEq]
      · simp only [fzS_tup, fzSRow_cons, fzSRow_nil, fzS_int, fzS_bool, Option.map_some, hidx, hm, hA, hB', hC]; simp
  · have hidx : idxI cells (stepP cells[i].g_At d) = -1 := if_neg hk
    (repeat (first | ((repeat (revert hN; revert N; apply Pn.out)); refine wk (tw @hgi (tw @eCell.eq_1 (tw @eSet.eq_1 (tw @ePoint.eq_1 @hidx)))) ?_; (repeat (refine Pn.mk ?_; intro N hN))) | ((try apply Or.inl); refine ⟨_, Ret.x (l01Step_v _ _ bx by_) _, ?_⟩; refine hN _ _ ?_; clear hN N) | ((try apply Or.inl); refine ⟨_, RetS.x (l31Index_v cells (stepP cells[i].g_At d)) (sd (tw @hgi (tw @eCell.eq_1 (tw @eSet.eq_1 (tw @ePoint.eq_1 @hidx))))), ?_⟩; refine hN _ _ ?_; clear hN N) | ((try apply Or.inl); refine ⟨_, Ret.x (Opposite_v _) _, ?_⟩; refine hN _ _ ?_; clear hN N)))
    refine ret2S (.inl rfl) (r1 := .int .i64 (-1)) (r2 := .bool false) ?_ ?_ ?_
    · simp only [go_sem, ↓reduceIte, Nat.reduceEqDiff, Nat.reduceAdd, Nat.reduceSub, Nat.reduceLeDiff, reduceCtorEq]
    · simp only [go_sem, ↓reduceIte, Nat.reduceEqDiff, Nat.reduceAdd, Nat.reduceSub, Nat.reduceLeDiff, reduceCtorEq]
    · simp only [fzS_tup, fzSRow_cons, fzSRow_nil, fzS_int, fzS_bool, Option.map_some, hidx, meetsB, dif_neg hk]


def noCell : D_SignalCell := ⟨⟨0, 0⟩, 0, [], [], []⟩
def nbr (cells : List D_SignalCell) (c : D_SignalCell) (d : Int) : D_SignalCell := cells.getD (idxN cells (stepP c.g_At d)) noCell
/-- On, by its tile or by one of the first m fires that fired. -/
def onTo (t : D_SignalTile) (c : D_SignalCell) (d : Int) : Nat → Bool
  | 0 => bAt t.g_On d
  | m + 1 => onTo t c d m || (decide ((fireAt t m).g_To = d) && bAt c.g_Fired m)
def boundB (s : D_SignalSet) (cells : List D_SignalCell) (c : D_SignalCell) (d : Int) : Bool := !bAt c.g_Bound d || (meetsB s cells c d && bAt (nbr cells c d).g_Bound (oppI d))
def dirB (s : D_SignalSet) (cells : List D_SignalCell) (c : D_SignalCell) (d : Int) : Bool := (bAt c.g_On d == onTo (tileAt s c.g_Tile) c d (tileAt s c.g_Tile).g_Fires.length) && boundB s cells c d
def firedB (s : D_SignalSet) (c : D_SignalCell) (m : Nat) : Bool := !bAt c.g_Fired m || bAt c.g_Bound (fireAt (tileAt s c.g_Tile) m).g_From
def cellB (s : D_SignalSet) (cells : List D_SignalCell) (c : D_SignalCell) : Bool := (List.range 4).all (fun d => dirB s cells c d) && (List.range (tileAt s c.g_Tile).g_Fires.length).all (firedB s c)
theorem cellB_true {s : D_SignalSet} {cells : List D_SignalCell} {c : D_SignalCell} (h1 : ∀ j : Nat, j < 4 → dirB s cells c j = true) (h2 : ∀ j : Nat, j < (tileAt s c.g_Tile).g_Fires.length → firedB s c j = true) : cellB s cells c = true := by
  simp only [cellB, Bool.and_eq_true, List.all_eq_true, List.mem_range]
  exact ⟨h1, h2⟩
theorem cellB_dir {s : D_SignalSet} {cells : List D_SignalCell} {c : D_SignalCell} {j : Nat} (hj : j < 4) (h : dirB s cells c j = false) : cellB s cells c = false := by
  rw [Bool.eq_false_iff]
  intro hc
  simp only [cellB, Bool.and_eq_true, List.all_eq_true, List.mem_range] at hc
  rw [hc.1 j hj] at h
  cases h
theorem cellB_fired {s : D_SignalSet} {cells : List D_SignalCell} {c : D_SignalCell} {j : Nat} (hj : j < (tileAt s c.g_Tile).g_Fires.length) (h : firedB s c j = false) : cellB s cells c = false := by
  rw [Bool.eq_false_iff]
  intro hc
  simp only [cellB, Bool.and_eq_true, List.all_eq_true, List.mem_range] at hc
  rw [hc.2 j hj] at h
  cases h
theorem meets_lt {s : D_SignalSet} {cells : List D_SignalCell} {c : D_SignalCell} {d : Int} (h : meetsB s cells c d = true) : idxN cells (stepP c.g_At d) < cells.length := by
  unfold meetsB at h
  split at h
  · assumption
  · cases h

set_option maxRecDepth 100000 in
set_option maxHeartbeats 4000000 in
theorem l31Cell_v (s : D_SignalSet) (cells : List D_SignalCell) (i : Nat) (hi : i < cells.length) (hS : SetForm s) (hF : ∀ c ∈ cells, FormOk s c) :
    RetS Tryz.prog 104 [.iptr (eSet s), .sl (cells.map eCell), .int .i64 i] (.bool (cellB s cells cells[i])) := by
  refine RetS.body cfE rfl fun hl n0 => ?_
  have hgi : (cells.map eCell)[i]? = some (eCell cells[i]) := by simp [hi]
  have fi := hF _ (List.getElem_mem hi)
  have q1 := fi.t0
  have q2 := fi.tile
  have ft := hS _ (tile_mem fi.t0 fi.t1)
  have hnf : (tileAt s cells[i].g_Tile).g_Fires.length ≤ 9223372036854775807 := by
    have h1 := (hl (.iptr (eSet s)) (by simp)).iptrc (a := .sl (s.g_Tiles.map eTile)) (by simp [eSet])
    simpa using ((h1.cell (cs := eTile (tileAt s cells[i].g_Tile)) (List.mem_map_of_mem (tile_mem fi.t0 fi.t1)) (a := .sl ((tileAt s cells[i].g_Tile).g_Fires.map eFire)) (by simp [eTile])).len)
  have hme := fun (d : Int) (hd : inB d 0 3 = true) => l31Meets_v s cells i hi d hd hS hF
  clear hl
  generalize cells[i] = c at *
  have hfr : c.g_Fired.length = (tileAt s c.g_Tile).g_Fires.length := fi.fired
  (try ((repeat (revert hN; revert N; apply Pn.out)); refine wk (tw @hgi (tw @q1 (tw @q2 (tw @eCell.eq_1 (tw @eSet.eq_1 @eTile.eq_1))))) ?_; (repeat (refine Pn.mk ?_; intro N hN))))
  refine w_loopC (fun n env st => ∃ k : Nat, n = 4 - k ∧ k ≤ 4 ∧ (∀ j : Nat, j < k → dirB s cells c j = true) ∧ env 0 = .iptr (eSet s) ∧ env 1 = .sl (cells.map eCell) ∧ env 2 = .int .i64 i ∧ env 7 = .iptr (eCell c) ∧ env 8 = .iptr (eTile (tileAt s c.g_Tile)) ∧ env 9 = .int .i64 k) 4 ⟨0, by omega, by omega, fun j h => by omega, rfl, rfl, rfl, rfl, rfl, rfl⟩ ?_
  rintro n env st ⟨k, rfl, hk, hne, h0, h1, h2, h7, h8, h9⟩
  by_cases hk4 : (k : Int) < 4
  · have hd : inB (k : Int) 0 3 = true := inB_of (by omega)
    have b1 : ((tileAt s c.g_Tile).g_On.map eBool)[k]? = some (eBool (bAt (tileAt s c.g_Tile).g_On k)) := bool_get ft.on hd
    (try ((repeat (revert hN; revert N; apply Pn.out)); refine wk (tw @h0 (tw @h1 (tw @h2 (tw @h7 (tw @h8 (tw @h9 (tw @hk4 (tw @b1 (tw @eCell.eq_1 (tw @eTile.eq_1 @eBool.eq_1)))))))))) ?_; (repeat (refine Pn.mk ?_; intro N hN))))
    refine w_loopC (fun n env st => ∃ m : Nat, n = (tileAt s c.g_Tile).g_Fires.length - m ∧ m ≤ (tileAt s c.g_Tile).g_Fires.length ∧ env 0 = .iptr (eSet s) ∧ env 1 = .sl (cells.map eCell) ∧ env 2 = .int .i64 i ∧ env 7 = .iptr (eCell c) ∧ env 8 = .iptr (eTile (tileAt s c.g_Tile)) ∧ env 9 = .int .i64 k ∧ env 10 = .bool (onTo (tileAt s c.g_Tile) c k m) ∧ env 11 = .int .i64 m) (tileAt s c.g_Tile).g_Fires.length ⟨0, by omega, by omega, sd @h0, sd @h1, sd @h2, sd @h7, sd @h8, sd @h9, by simp only [go_sem, ↓reduceIte, Nat.reduceEqDiff, Nat.reduceAdd, Nat.reduceSub, Nat.reduceLeDiff, reduceCtorEq, onTo], by simp only [go_sem, ↓reduceIte, Nat.reduceEqDiff, Nat.reduceAdd, Nat.reduceSub, Nat.reduceLeDiff, reduceCtorEq]; rfl⟩ ?_
    clear h0 h1 h2 h7 h8 h9
    rintro n env st ⟨m, rfl, hm, h0, h1, h2, h7, h8, h9, h10, h11⟩
    by_cases hmn : (m : Int) < ((tileAt s c.g_Tile).g_Fires.length : Int)
    · have f1 : ((tileAt s c.g_Tile).g_Fires.map eFire)[m]? = some (eFire (fireAt (tileAt s c.g_Tile) m)) := get_map eFire (by omega)
      have f2 : (c.g_Fired.map eBool)[m]? = some (eBool (bAt c.g_Fired m)) := get_map eBool (d := false) (by omega)
      have fin : ∀ {e : Env}, e 0 = .iptr (eSet s) → e 1 = .sl (cells.map eCell) → e 2 = .int .i64 i → e 7 = .iptr (eCell c) → e 8 = .iptr (eTile (tileAt s c.g_Tile)) → e 9 = .int .i64 k → e 10 = .bool (onTo (tileAt s c.g_Tile) c k (m + 1)) → e 11 = .int .i64 (IntKind.i64.wrap ((m : Int) + 1)) → ∃ m', m' < (tileAt s c.g_Tile).g_Fires.length - m ∧ ∃ m1 : Nat, m' = (tileAt s c.g_Tile).g_Fires.length - m1 ∧ m1 ≤ (tileAt s c.g_Tile).g_Fires.length ∧ e 0 = .iptr (eSet s) ∧ e 1 = .sl (cells.map eCell) ∧ e 2 = .int .i64 i ∧ e 7 = .iptr (eCell c) ∧ e 8 = .iptr (eTile (tileAt s c.g_Tile)) ∧ e 9 = .int .i64 k ∧ e 10 = .bool (onTo (tileAt s c.g_Tile) c k m1) ∧ e 11 = .int .i64 m1 := by
        intro e a0 a1 a2 a7 a8 a9 a10 a11
        exact ⟨_, by omega, m + 1, rfl, by omega, a0, a1, a2, a7, a8, a9, a10, by rw [a11, wrap_succ (n := (tileAt s c.g_Tile).g_Fires.length) (by omega) hnf]⟩
      cases hon : onTo (tileAt s c.g_Tile) c k m
      · by_cases hto : (fireAt (tileAt s c.g_Tile) m).g_To = k
        · (try ((repeat (revert hN; revert N; apply Pn.out)); refine wk (tw @h0 (tw @h1 (tw @h2 (tw @h7 (tw @h8 (tw @h9 (tw @h10 (tw @h11 (tw @hmn (tw @hon (tw @hto (tw @f1 (tw @f2 (tw @eCell.eq_1 (tw @eTile.eq_1 (tw @eBool.eq_1 @eFire.eq_1)))))))))))))))) ?_; (repeat (refine Pn.mk ?_; intro N hN))))
          refine fin ?_ ?_ ?_ ?_ ?_ ?_ ?_ ?_
          all_goals simp only [go_sem, ↓reduceIte, Nat.reduceEqDiff, Nat.reduceAdd, Nat.reduceSub, Nat.reduceLeDiff, reduceCtorEq, h0, h1, h2, h7, h8, h9, onTo, hon, hto, eCell, eTile]
        · (try ((repeat (revert hN; revert N; apply Pn.out)); refine wk (tw @h0 (tw @h1 (tw @h2 (tw @h7 (tw @h8 (tw @h9 (tw @h10 (tw @h11 (tw @hmn (tw @hon (tw @hto (tw @f1 (tw @f2 (tw @eCell.eq_1 (tw @eTile.eq_1 (tw @eBool.eq_1 @eFire.eq_1)))))))))))))))) ?_; (repeat (refine Pn.mk ?_; intro N hN))))
          refine fin ?_ ?_ ?_ ?_ ?_ ?_ ?_ ?_
          all_goals simp only [go_sem, ↓reduceIte, Nat.reduceEqDiff, Nat.reduceAdd, Nat.reduceSub, Nat.reduceLeDiff, reduceCtorEq, h0, h1, h2, h7, h8, h9, onTo, hon, hto, eCell, eTile, Bool.false_and]
      · (try ((repeat (revert hN; revert N; apply Pn.out)); refine wk (tw @h0 (tw @h1 (tw @h2 (tw @h7 (tw @h8 (tw @h9 (tw @h10 (tw @h11 (tw @hmn (tw @hon (tw @f1 (tw @f2 (tw @eCell.eq_1 (tw @eTile.eq_1 (tw @eBool.eq_1 @eFire.eq_1))))))))))))))) ?_; (repeat (refine Pn.mk ?_; intro N hN))))
        refine fin ?_ ?_ ?_ ?_ ?_ ?_ ?_ ?_
        all_goals simp only [go_sem, ↓reduceIte, Nat.reduceEqDiff, Nat.reduceAdd, Nat.reduceSub, Nat.reduceLeDiff, reduceCtorEq, h0, h1, h2, h7, h8, h9, onTo, hon, eCell, eTile, Bool.true_or]
    · have hmm : m = (tileAt s c.g_Tile).g_Fires.length := by omega
      subst hmm
      have b2 : (c.g_On.map eBool)[k]? = some (eBool (bAt c.g_On k)) := bool_get fi.on hd
      have b3 : (c.g_Bound.map eBool)[k]? = some (eBool (bAt c.g_Bound k)) := bool_get fi.bound hd
      have next : ∀ {e : Env}, e 0 = .iptr (eSet s) → e 1 = .sl (cells.map eCell) → e 2 = .int .i64 i → e 7 = .iptr (eCell c) → e 8 = .iptr (eTile (tileAt s c.g_Tile)) → e 9 = .int .i64 (IntKind.i64.wrap ((k : Int) + 1)) → dirB s cells c k = true → ∃ m', m' < 4 - k ∧ ∃ m1 : Nat, m' = 4 - m1 ∧ m1 ≤ 4 ∧ (∀ j : Nat, j < m1 → dirB s cells c j = true) ∧ e 0 = .iptr (eSet s) ∧ e 1 = .sl (cells.map eCell) ∧ e 2 = .int .i64 i ∧ e 7 = .iptr (eCell c) ∧ e 8 = .iptr (eTile (tileAt s c.g_Tile)) ∧ e 9 = .int .i64 m1 := by
        intro e a0 a1 a2 a7 a8 a9 a10
        refine ⟨_, by omega, k + 1, rfl, by omega, fun j hj => ?_, a0, a1, a2, a7, a8, by rw [a9, wrap_succ (n := 4) (by omega) (by omega)]⟩
        by_cases hjk : j = k
        · subst hjk; exact a10
        · exact hne j (by omega)
      cases he : (bAt c.g_On k == onTo (tileAt s c.g_Tile) c k (tileAt s c.g_Tile).g_Fires.length)
      · (try ((repeat (revert hN; revert N; apply Pn.out)); refine wk (tw @h0 (tw @h1 (tw @h2 (tw @h7 (tw @h8 (tw @h9 (tw @h10 (tw @h11 (tw @hmn (tw @b2 (tw @he (tw @eCell.eq_1 (tw @eTile.eq_1 @eBool.eq_1))))))))))))) ?_; (repeat (refine Pn.mk ?_; intro N hN))))
        refine ret1Sb (b := false) (.inl rfl) (sd @Nat.zero_add) (cellB_dir (j := k) (by omega) (by simp [dirB, he])).symm
      cases hb : bAt c.g_Bound k
      · (try ((repeat (revert hN; revert N; apply Pn.out)); refine wk (tw @h0 (tw @h1 (tw @h2 (tw @h7 (tw @h8 (tw @h9 (tw @h10 (tw @h11 (tw @hmn (tw @b2 (tw @b3 (tw @he (tw @hb (tw @eCell.eq_1 (tw @eTile.eq_1 @eBool.eq_1))))))))))))))) ?_; (repeat (refine Pn.mk ?_; intro N hN))))
        refine next ?_ ?_ ?_ ?_ ?_ ?_ ?_
        · simp only [go_sem, ↓reduceIte, Nat.reduceEqDiff, Nat.reduceAdd, Nat.reduceSub, Nat.reduceLeDiff, reduceCtorEq, h0]
        · simp only [go_sem, ↓reduceIte, Nat.reduceEqDiff, Nat.reduceAdd, Nat.reduceSub, Nat.reduceLeDiff, reduceCtorEq, h1]
        · simp only [go_sem, ↓reduceIte, Nat.reduceEqDiff, Nat.reduceAdd, Nat.reduceSub, Nat.reduceLeDiff, reduceCtorEq, h2]
        · simp only [go_sem, ↓reduceIte, Nat.reduceEqDiff, Nat.reduceAdd, Nat.reduceSub, Nat.reduceLeDiff, reduceCtorEq, h7, eCell]
        · simp only [go_sem, ↓reduceIte, Nat.reduceEqDiff, Nat.reduceAdd, Nat.reduceSub, Nat.reduceLeDiff, reduceCtorEq, h8, eTile]
        · simp only [go_sem, ↓reduceIte, Nat.reduceEqDiff, Nat.reduceAdd, Nat.reduceSub, Nat.reduceLeDiff, reduceCtorEq, h9]
        · simp [dirB, he, boundB, hb]
      cases hm : meetsB s cells c k
      · (repeat (first | ((repeat (revert hN; revert N; apply Pn.out)); refine wk (tw @h0 (tw @h1 (tw @h2 (tw @h7 (tw @h8 (tw @h9 (tw @h10 (tw @h11 (tw @hmn (tw @b2 (tw @b3 (tw @he (tw @hb (tw @hm (tw @eCell.eq_1 (tw @eTile.eq_1 @eBool.eq_1)))))))))))))))) ?_; (repeat (refine Pn.mk ?_; intro N hN))) | ((try apply Or.inl); refine ⟨_, RetS.x (hme k hd) (sd (tw @h0 (tw @h1 (tw @h2 (tw @h7 (tw @h8 (tw @h9 (tw @h10 (tw @h11 (tw @hmn (tw @b2 (tw @b3 (tw @he (tw @hb (tw @hm (tw @eCell.eq_1 (tw @eTile.eq_1 @eBool.eq_1))))))))))))))))), ?_⟩; refine hN _ _ ?_; clear hN N)))
        refine ret1Sb (b := false) (.inl rfl) (sd @Nat.zero_add) (cellB_dir (j := k) (by omega) (by simp [dirB, he, boundB, hb, hm])).symm
      have hix := meets_lt hm
      have hidx : idxI cells (stepP c.g_At k) = (idxN cells (stepP c.g_At k) : Int) := if_pos hix
      have hgk : (cells.map eCell)[idxN cells (stepP c.g_At k)]? = some (eCell (nbr cells c k)) := get_map eCell hix
      have ho := opp_in hd
      have q8 := (inB_true ho).1
      have hmem : nbr cells c k ∈ cells := by
        unfold nbr
        rw [List.getD_eq_getElem?_getD, List.getElem?_eq_getElem hix]
        exact List.getElem_mem hix
      have b4 : ((nbr cells c k).g_Bound.map eBool)[(oppI k).toNat]? = some (eBool (bAt (nbr cells c k).g_Bound (oppI k))) := bool_get (hF _ hmem).bound ho
      cases hob : bAt (nbr cells c k).g_Bound (oppI k)
      · (repeat (first | ((repeat (revert hN; revert N; apply Pn.out)); refine wk (tw @h0 (tw @h1 (tw @h2 (tw @h7 (tw @h8 (tw @h9 (tw @h10 (tw @h11 (tw @hmn (tw @b2 (tw @b3 (tw @b4 (tw @he (tw @hb (tw @hm (tw @hidx (tw @hgk (tw @q8 (tw @hob (tw @eCell.eq_1 (tw @eTile.eq_1 @eBool.eq_1))))))))))))))))))))) ?_; (repeat (refine Pn.mk ?_; intro N hN))) | ((try apply Or.inl); refine ⟨_, RetS.x (hme k hd) (sd (tw @h0 (tw @h1 (tw @h2 (tw @h7 (tw @h8 (tw @h9 (tw @h10 (tw @h11 (tw @hmn (tw @b2 (tw @b3 (tw @b4 (tw @he (tw @hb (tw @hm (tw @hidx (tw @hgk (tw @q8 (tw @hob (tw @eCell.eq_1 (tw @eTile.eq_1 @eBool.eq_1)))))))))))))))))))))), ?_⟩; refine hN _ _ ?_; clear hN N) | ((try apply Or.inl); refine ⟨_, Ret.x (Opposite_v k) _, ?_⟩; refine hN _ _ ?_; clear hN N)))
        refine ret1Sb (b := false) (.inl rfl) (sd @Nat.zero_add) (cellB_dir (j := k) (by omega) (by simp [dirB, he, boundB, hb, hm, hob])).symm
      · (repeat (first | ((repeat (revert hN; revert N; apply Pn.out)); refine wk (tw @h0 (tw @h1 (tw @h2 (tw @h7 (tw @h8 (tw @h9 (tw @h10 (tw @h11 (tw @hmn (tw @b2 (tw @b3 (tw @b4 (tw @he (tw @hb (tw @hm (tw @hidx (tw @hgk (tw @q8 (tw @hob (tw @eCell.eq_1 (tw @eTile.eq_1 @eBool.eq_1))))))))))))))))))))) ?_; (repeat (refine Pn.mk ?_; intro N hN))) | ((try apply Or.inl); refine ⟨_, RetS.x (hme k hd) (sd (tw @h0 (tw @h1 (tw @h2 (tw @h7 (tw @h8 (tw @h9 (tw @h10 (tw @h11 (tw @hmn (tw @b2 (tw @b3 (tw @b4 (tw @he (tw @hb (tw @hm (tw @hidx (tw @hgk (tw @q8 (tw @hob (tw @eCell.eq_1 (tw @eTile.eq_1 @eBool.eq_1)))))))))))))))))))))), ?_⟩; refine hN _ _ ?_; clear hN N) | ((try apply Or.inl); refine ⟨_, Ret.x (Opposite_v k) _, ?_⟩; refine hN _ _ ?_; clear hN N)))
        refine next ?_ ?_ ?_ ?_ ?_ ?_ ?_
        · simp only [go_sem, ↓reduceIte, Nat.reduceEqDiff, Nat.reduceAdd, Nat.reduceSub, Nat.reduceLeDiff, reduceCtorEq, h0]
        · simp only [go_sem, ↓reduceIte, Nat.reduceEqDiff, Nat.reduceAdd, Nat.reduceSub, Nat.reduceLeDiff, reduceCtorEq, h1]
        · simp only [go_sem, ↓reduceIte, Nat.reduceEqDiff, Nat.reduceAdd, Nat.reduceSub, Nat.reduceLeDiff, reduceCtorEq, h2]
        · simp only [go_sem, ↓reduceIte, Nat.reduceEqDiff, Nat.reduceAdd, Nat.reduceSub, Nat.reduceLeDiff, reduceCtorEq, h7, eCell]
        · simp only [go_sem, ↓reduceIte, Nat.reduceEqDiff, Nat.reduceAdd, Nat.reduceSub, Nat.reduceLeDiff, reduceCtorEq, h8, eTile]
        · simp only [go_sem, ↓reduceIte, Nat.reduceEqDiff, Nat.reduceAdd, Nat.reduceSub, Nat.reduceLeDiff, reduceCtorEq, h9]
        · simp [dirB, he, boundB, hb, hm, hob]
  · have hk' : k = 4 := by omega
    subst hk'
    (try ((repeat (revert hN; revert N; apply Pn.out)); refine wk (tw @h0 (tw @h1 (tw @h2 (tw @h7 (tw @h8 (tw @h9 (tw @hk4 (tw @eCell.eq_1 @eTile.eq_1)))))))) ?_; (repeat (refine Pn.mk ?_; intro N hN))))
    refine w_loopC (fun n env st => ∃ m : Nat, n = (tileAt s c.g_Tile).g_Fires.length - m ∧ m ≤ (tileAt s c.g_Tile).g_Fires.length ∧ (∀ j : Nat, j < m → firedB s c j = true) ∧ env 7 = .iptr (eCell c) ∧ env 8 = .iptr (eTile (tileAt s c.g_Tile)) ∧ env 14 = .int .i64 m) (tileAt s c.g_Tile).g_Fires.length ⟨0, by omega, by omega, fun j h => by omega, sd (tw @h7 @eCell.eq_1), sd (tw @h8 @eTile.eq_1), by simp only [go_sem, ↓reduceIte, Nat.reduceEqDiff, Nat.reduceAdd, Nat.reduceSub, Nat.reduceLeDiff, reduceCtorEq]; rfl⟩ ?_
    clear h0 h1 h2 h7 h8 h9
    rintro n env st ⟨m, rfl, hm, hf, h7, h8, h14⟩
    by_cases hmn : (m : Int) < ((tileAt s c.g_Tile).g_Fires.length : Int)
    · have f1 : ((tileAt s c.g_Tile).g_Fires.map eFire)[m]? = some (eFire (fireAt (tileAt s c.g_Tile) m)) := get_map eFire (by omega)
      have f2 : (c.g_Fired.map eBool)[m]? = some (eBool (bAt c.g_Fired m)) := get_map eBool (d := false) (by omega)
      have hfr := (ft.fires (fireAt (tileAt s c.g_Tile) m) (by
        have : m < (tileAt s c.g_Tile).g_Fires.length := by omega
        unfold fireAt
        rw [List.getD_eq_getElem?_getD, List.getElem?_eq_getElem this]
        exact List.getElem_mem this)).1
      have q9 := (inB_true hfr).1
      have f3 : (c.g_Bound.map eBool)[(fireAt (tileAt s c.g_Tile) m).g_From.toNat]? = some (eBool (bAt c.g_Bound (fireAt (tileAt s c.g_Tile) m).g_From)) := bool_get fi.bound hfr
      have next : ∀ {e : Env}, e 7 = .iptr (eCell c) → e 8 = .iptr (eTile (tileAt s c.g_Tile)) → e 14 = .int .i64 (IntKind.i64.wrap ((m : Int) + 1)) → firedB s c m = true → ∃ m', m' < (tileAt s c.g_Tile).g_Fires.length - m ∧ ∃ m1 : Nat, m' = (tileAt s c.g_Tile).g_Fires.length - m1 ∧ m1 ≤ (tileAt s c.g_Tile).g_Fires.length ∧ (∀ j : Nat, j < m1 → firedB s c j = true) ∧ e 7 = .iptr (eCell c) ∧ e 8 = .iptr (eTile (tileAt s c.g_Tile)) ∧ e 14 = .int .i64 m1 := by
        intro e a7 a8 a14 a10
        refine ⟨_, by omega, m + 1, rfl, by omega, fun j hj => ?_, a7, a8, by rw [a14, wrap_succ (n := (tileAt s c.g_Tile).g_Fires.length) (by omega) hnf]⟩
        by_cases hjk : j = m
        · subst hjk; exact a10
        · exact hf j (by omega)
      cases hfd : bAt c.g_Fired m
      · (try ((repeat (revert hN; revert N; apply Pn.out)); refine wk (tw @h7 (tw @h8 (tw @h14 (tw @hmn (tw @f1 (tw @f2 (tw @hfd (tw @eCell.eq_1 (tw @eTile.eq_1 (tw @eBool.eq_1 @eFire.eq_1)))))))))) ?_; (repeat (refine Pn.mk ?_; intro N hN))))
        refine next ?_ ?_ ?_ ?_
        · simp only [go_sem, ↓reduceIte, Nat.reduceEqDiff, Nat.reduceAdd, Nat.reduceSub, Nat.reduceLeDiff, reduceCtorEq, h7, eCell]
        · simp only [go_sem, ↓reduceIte, Nat.reduceEqDiff, Nat.reduceAdd, Nat.reduceSub, Nat.reduceLeDiff, reduceCtorEq, h8, eTile]
        · simp only [go_sem, ↓reduceIte, Nat.reduceEqDiff, Nat.reduceAdd, Nat.reduceSub, Nat.reduceLeDiff, reduceCtorEq, h14]
        · simp [firedB, hfd]
      cases hbd : bAt c.g_Bound (fireAt (tileAt s c.g_Tile) m).g_From
      · (try ((repeat (revert hN; revert N; apply Pn.out)); refine wk (tw @h7 (tw @h8 (tw @h14 (tw @hmn (tw @f1 (tw @f2 (tw @f3 (tw @q9 (tw @hfd (tw @hbd (tw @eCell.eq_1 (tw @eTile.eq_1 (tw @eBool.eq_1 @eFire.eq_1))))))))))))) ?_; (repeat (refine Pn.mk ?_; intro N hN))))
        refine ret1Sb (b := false) (.inl rfl) (sd @Nat.zero_add) (cellB_fired (j := m) (by omega) (by simp [firedB, hfd, hbd])).symm
      · (try ((repeat (revert hN; revert N; apply Pn.out)); refine wk (tw @h7 (tw @h8 (tw @h14 (tw @hmn (tw @f1 (tw @f2 (tw @f3 (tw @q9 (tw @hfd (tw @hbd (tw @eCell.eq_1 (tw @eTile.eq_1 (tw @eBool.eq_1 @eFire.eq_1))))))))))))) ?_; (repeat (refine Pn.mk ?_; intro N hN))))
        refine next ?_ ?_ ?_ ?_
        · simp only [go_sem, ↓reduceIte, Nat.reduceEqDiff, Nat.reduceAdd, Nat.reduceSub, Nat.reduceLeDiff, reduceCtorEq, h7, eCell]
        · simp only [go_sem, ↓reduceIte, Nat.reduceEqDiff, Nat.reduceAdd, Nat.reduceSub, Nat.reduceLeDiff, reduceCtorEq, h8, eTile]
        · simp only [go_sem, ↓reduceIte, Nat.reduceEqDiff, Nat.reduceAdd, Nat.reduceSub, Nat.reduceLeDiff, reduceCtorEq, h14]
        · simp [firedB, hfd, hbd]
    · (try ((repeat (revert hN; revert N; apply Pn.out)); refine wk (tw @h7 (tw @h8 (tw @h14 (tw @hmn (tw @eCell.eq_1 @eTile.eq_1))))) ?_; (repeat (refine Pn.mk ?_; intro N hN))))
      refine ret1Sb (b := true) (.inl rfl) (sd @Nat.zero_add) (cellB_true (fun j hj => hne j hj) fun j hj => hf j (by omega)).symm

/-- What a checked set is known to keep, beyond SetForm. -/
structure SetSides (s : D_SignalSet) : Prop where
  sides : ∀ t ∈ s.g_Tiles, ∀ d : Int, inB d 0 3 = true → 0 ≤ sideOf t d ∧ sideOf t d ≤ s.g_Glues.length
  on : ∀ t ∈ s.g_Tiles, ∀ d : Int, inB d 0 3 = true → bAt t.g_On d = true → sideOf t d ≠ 0
def nbrP (cells : List D_SignalCell) (p : D_Point) (d : Int) : D_SignalCell := cells.getD (idxN cells (stepP p d)) ⟨⟨0, 0⟩, 0, [], [], []⟩
def gStr (s : D_SignalSet) (x : Int) : Int := (s.g_Glues.getD (x - 1).toNat ⟨⟨#[]⟩, 0⟩).g_Strength
/-- Whether a tile at a place would be held by its neighbour in a direction. -/
def gripB (s : D_SignalSet) (cells : List D_SignalCell) (p : D_Point) (t : D_SignalTile) (d : Int) : Bool :=
  decide (idxN cells (stepP p d) < cells.length) && (bAt t.g_On d && (bAt (nbrP cells p d).g_On (oppI d) && decide (sideOf (tileAt s (nbrP cells p d).g_Tile) (oppI d) = sideOf t d)))
def strN (s : D_SignalSet) (cells : List D_SignalCell) (p : D_Point) (t : D_SignalTile) : Nat → Int
  | 0 => 0
  | k + 1 => if gripB s cells p t k then IntKind.i64.wrap (strN s cells p t k + gStr s (sideOf t k)) else strN s cells p t k

set_option maxRecDepth 100000 in
set_option maxHeartbeats 4000000 in
theorem l31Strength_v (s : D_SignalSet) (cells : List D_SignalCell) (p : D_Point) (t : Int) (ht0 : 0 ≤ t) (ht1 : t < s.g_Tiles.length) (hp : ptB p = true) (hS : SetForm s) (hSS : SetSides s) (hF : ∀ c ∈ cells, FormOk s c) :
    RetS Tryz.prog 83 [.iptr (eSet s), .sl (cells.map eCell), .agg (ePoint p), .int .i64 t] (.int .i64 (strN s cells p (tileAt s t) 4)) := by
  refine RetS.body cfE rfl fun hl n0 => ?_
  obtain ⟨bx, by_⟩ := iB_of hp
  have hng : s.g_Glues.length ≤ 9223372036854775807 := by simpa [eSet] using ((hl (.iptr (eSet s)) (by simp)).iptrc (a := .sl (s.g_Glues.map eGlue)) (by simp [eSet])).len
  clear hl
  have hgt : (s.g_Tiles.map eTile)[t.toNat]? = some (eTile (tileAt s t)) := get_map eTile (toNat_lt ht1 ht0)
  have htm := tile_mem ht0 ht1
  have ft := hS _ htm
  (try ((repeat (revert hN; revert N; apply Pn.out)); refine wk (tw @hgt (tw @ht0 (tw @eSet.eq_1 (tw @eTile.eq_1 @ePoint.eq_1)))) ?_; (repeat (refine Pn.mk ?_; intro N hN))))
  refine w_loopC (fun n env st => ∃ k : Nat, n = 4 - k ∧ k ≤ 4 ∧ env 0 = .iptr (eSet s) ∧ env 1 = .sl (cells.map eCell) ∧ env 6 = .ptr ⟨83000000, n0⟩ 0 0 ∧ env 9 = .iptr (eTile (tileAt s t)) ∧ env 10 = .int .i64 (strN s cells p (tileAt s t) k) ∧ env 11 = .int .i64 k ∧ st.get ⟨83000000, n0⟩ = some ⟨true, 2, [ePoint p]⟩) 4 ⟨0, by omega, by omega, sd @eSet.eq_1, sd @Nat.zero_add, sd @Nat.zero_add, sd @eTile.eq_1, by simp only [go_sem, ↓reduceIte, Nat.reduceEqDiff, Nat.reduceAdd, Nat.reduceSub, Nat.reduceLeDiff, reduceCtorEq, strN], by simp only [go_sem, ↓reduceIte, Nat.reduceEqDiff, Nat.reduceAdd, Nat.reduceSub, Nat.reduceLeDiff, reduceCtorEq]; rfl, sd @ePoint.eq_1⟩ ?_
  rintro n env st ⟨k, rfl, hk, h0, h1, h6, h9, h10, h11, hg⟩
  by_cases hk4 : (k : Int) < 4
  · have hd : inB (k : Int) 0 3 = true := inB_of (by omega)
    have ek := wrap_succ (k := k) (n := 4) (by omega) (by omega)
    have next : ∀ {e : Env} {st : Store}, e 0 = .iptr (eSet s) → e 1 = .sl (cells.map eCell) → e 6 = .ptr ⟨83000000, n0⟩ 0 0 → e 9 = .iptr (eTile (tileAt s t)) → e 10 = .int .i64 (strN s cells p (tileAt s t) (k + 1)) → e 11 = .int .i64 ((k + 1 : Nat) : Int) → st.get ⟨83000000, n0⟩ = some ⟨true, 2, [ePoint p]⟩ → ∃ m', m' < 4 - k ∧ ∃ k : Nat, m' = 4 - k ∧ k ≤ 4 ∧ e 0 = .iptr (eSet s) ∧ e 1 = .sl (cells.map eCell) ∧ e 6 = .ptr ⟨83000000, n0⟩ 0 0 ∧ e 9 = .iptr (eTile (tileAt s t)) ∧ e 10 = .int .i64 (strN s cells p (tileAt s t) k) ∧ e 11 = .int .i64 k ∧ st.get ⟨83000000, n0⟩ = some ⟨true, 2, [ePoint p]⟩ := by
      intro e st a0 a1 a6 a9 a10 a11 a12
      exact ⟨_, by omega, k + 1, rfl, by omega, a0, a1, a6, a9, a10, a11, a12⟩
    by_cases hix : idxN cells (stepP p k) < cells.length
    case neg =>
      have hidx : idxI cells (stepP p k) = -1 := if_neg hix
      have hgr : gripB s cells p (tileAt s t) k = false := by simp [gripB, hix]
      (repeat (first | ((repeat (revert hN; revert N; apply Pn.out)); refine wk (tw @h0 (tw @h1 (tw @h6 (tw @h9 (tw @h10 (tw @h11 (tw @hg (tw @hk4 (tw @hidx (tw @eCell.eq_1 @ePoint.eq_1)))))))))) ?_; (repeat (refine Pn.mk ?_; intro N hN))) | ((try apply Or.inl); refine ⟨_, Ret.x (l01Step_v p k bx by_) _, ?_⟩; refine hN _ _ ?_; clear hN N) | ((try apply Or.inl); refine ⟨_, RetS.x (l31Index_v cells (stepP p k)) (sd (tw @h0 (tw @h1 (tw @h6 (tw @h9 (tw @h10 (tw @h11 (tw @hg (tw @hk4 (tw @hidx (tw @eCell.eq_1 @ePoint.eq_1))))))))))), ?_⟩; refine hN _ _ ?_; clear hN N)))
      exact next (sd @h0) (sd @h1) (sd @h6) (sd @h9) (by simp only [go_sem, ↓reduceIte, Nat.reduceEqDiff, Nat.reduceAdd, Nat.reduceSub, Nat.reduceLeDiff, reduceCtorEq, h10, strN, hgr]) (sd (tw @h11 @ek)) (sd (tw @hg @ePoint.eq_1))
    have hidx : idxI cells (stepP p k) = (idxN cells (stepP p k) : Int) := if_pos hix
    have hnn : ¬ ((idxN cells (stepP p k) : Int) < 0) := by omega
    have hgk : (cells.map eCell)[idxN cells (stepP p k)]? = some (eCell (nbrP cells p k)) := get_map eCell hix
    have hmem : nbrP cells p k ∈ cells := by
      unfold nbrP
      rw [List.getD_eq_getElem?_getD, List.getElem?_eq_getElem hix]
      exact List.getElem_mem hix
    have fk := hF _ hmem
    have b1 : ((tileAt s t).g_On.map eBool)[k]? = some (eBool (bAt (tileAt s t).g_On k)) := bool_get ft.on hd
    cases hon : bAt (tileAt s t).g_On k
    · have hgr : gripB s cells p (tileAt s t) k = false := by simp [gripB, hon]
      (repeat (first | ((repeat (revert hN; revert N; apply Pn.out)); refine wk (tw @h0 (tw @h1 (tw @h6 (tw @h9 (tw @h10 (tw @h11 (tw @hg (tw @hk4 (tw @hidx (tw @hnn (tw @b1 (tw @hon (tw @eTile.eq_1 (tw @eBool.eq_1 @ePoint.eq_1)))))))))))))) ?_; (repeat (refine Pn.mk ?_; intro N hN))) | ((try apply Or.inl); refine ⟨_, Ret.x (l01Step_v p k bx by_) _, ?_⟩; refine hN _ _ ?_; clear hN N) | ((try apply Or.inl); refine ⟨_, RetS.x (l31Index_v cells (stepP p k)) (sd (tw @h0 (tw @h1 (tw @h6 (tw @h9 (tw @h10 (tw @h11 (tw @hg (tw @hk4 (tw @hidx (tw @hnn (tw @b1 (tw @hon (tw @eTile.eq_1 (tw @eBool.eq_1 @ePoint.eq_1))))))))))))))), ?_⟩; refine hN _ _ ?_; clear hN N)))
      exact next (sd @h0) (sd @h1) (sd @h6) (sd (tw @h9 @eTile.eq_1)) (by simp only [go_sem, ↓reduceIte, Nat.reduceEqDiff, Nat.reduceAdd, Nat.reduceSub, Nat.reduceLeDiff, reduceCtorEq, h10, strN, hgr]) (sd (tw @h11 @ek)) (sd (tw @hg @ePoint.eq_1))
    have ho := opp_in hd
    have q8 := (inB_true ho).1
    have b2 := bool_get fk.on ho
    cases hno : bAt (nbrP cells p k).g_On (oppI k)
    · have hgr : gripB s cells p (tileAt s t) k = false := by simp [gripB, hno]
      (repeat (first | ((repeat (revert hN; revert N; apply Pn.out)); refine wk (tw @h0 (tw @h1 (tw @h6 (tw @h9 (tw @h10 (tw @h11 (tw @hg (tw @hk4 (tw @hidx (tw @hnn (tw @hgk (tw @b1 (tw @b2 (tw @q8 (tw @hon (tw @hno (tw @eCell.eq_1 (tw @eTile.eq_1 (tw @eBool.eq_1 @ePoint.eq_1))))))))))))))))))) ?_; (repeat (refine Pn.mk ?_; intro N hN))) | ((try apply Or.inl); refine ⟨_, Ret.x (l01Step_v p k bx by_) _, ?_⟩; refine hN _ _ ?_; clear hN N) | ((try apply Or.inl); refine ⟨_, RetS.x (l31Index_v cells (stepP p k)) (sd (tw @h0 (tw @h1 (tw @h6 (tw @h9 (tw @h10 (tw @h11 (tw @hg (tw @hk4 (tw @hidx (tw @hnn (tw @hgk (tw @b1 (tw @b2 (tw @q8 (tw @hon (tw @hno (tw @eCell.eq_1 (tw @eTile.eq_1 (tw @eBool.eq_1 @ePoint.eq_1)))))))))))))))))))), ?_⟩; refine hN _ _ ?_; clear hN N) | ((try apply Or.inl); refine ⟨_, Ret.x (Opposite_v k) _, ?_⟩; refine hN _ _ ?_; clear hN N)))
      exact next (sd @h0) (sd @h1) (sd @h6) (sd (tw @h9 @eTile.eq_1)) (by simp only [go_sem, ↓reduceIte, Nat.reduceEqDiff, Nat.reduceAdd, Nat.reduceSub, Nat.reduceLeDiff, reduceCtorEq, h10, strN, hgr]) (sd (tw @h11 @ek)) (sd (tw @hg @ePoint.eq_1))
    have q5 := fk.t0
    have q6 := fk.tile
    have q7 := side_get (hS _ (tile_mem fk.t0 fk.t1)) ho
    have q9 : ((tileAt s t).g_Sides.map eInt)[k]? = some (eInt (sideOf (tileAt s t) k)) := side_get ft hd
    by_cases hsd : sideOf (tileAt s (nbrP cells p k).g_Tile) (oppI k) = sideOf (tileAt s t) k
    case neg =>
      have hgr : gripB s cells p (tileAt s t) k = false := by simp [gripB, hsd]
      (repeat (first | ((repeat (revert hN; revert N; apply Pn.out)); refine wk (tw @h0 (tw @h1 (tw @h6 (tw @h9 (tw @h10 (tw @h11 (tw @hg (tw @hk4 (tw @hidx (tw @hnn (tw @hgk (tw @b1 (tw @b2 (tw @q5 (tw @q6 (tw @q7 (tw @q8 (tw @q9 (tw @hon (tw @hno (tw @hsd (tw @eSet.eq_1 (tw @eCell.eq_1 (tw @eTile.eq_1 (tw @eBool.eq_1 (tw @eInt.eq_1 @ePoint.eq_1)))))))))))))))))))))))))) ?_; (repeat (refine Pn.mk ?_; intro N hN))) | ((try apply Or.inl); refine ⟨_, Ret.x (l01Step_v p k bx by_) _, ?_⟩; refine hN _ _ ?_; clear hN N) | ((try apply Or.inl); refine ⟨_, RetS.x (l31Index_v cells (stepP p k)) (sd (tw @h0 (tw @h1 (tw @h6 (tw @h9 (tw @h10 (tw @h11 (tw @hg (tw @hk4 (tw @hidx (tw @hnn (tw @hgk (tw @b1 (tw @b2 (tw @q5 (tw @q6 (tw @q7 (tw @q8 (tw @q9 (tw @hon (tw @hno (tw @hsd (tw @eSet.eq_1 (tw @eCell.eq_1 (tw @eTile.eq_1 (tw @eBool.eq_1 (tw @eInt.eq_1 @ePoint.eq_1))))))))))))))))))))))))))), ?_⟩; refine hN _ _ ?_; clear hN N) | ((try apply Or.inl); refine ⟨_, Ret.x (Opposite_v k) _, ?_⟩; refine hN _ _ ?_; clear hN N)))
      exact next (sd (tw @h0 @eSet.eq_1)) (sd @h1) (sd @h6) (sd (tw @h9 @eTile.eq_1)) (by simp only [go_sem, ↓reduceIte, Nat.reduceEqDiff, Nat.reduceAdd, Nat.reduceSub, Nat.reduceLeDiff, reduceCtorEq, h10, strN, hgr]) (sd (tw @h11 @ek)) (sd (tw @hg @ePoint.eq_1))
    have hgr : gripB s cells p (tileAt s t) k = true := by simp [gripB, hsd, hix, hon, hno]
    have hs1 := hSS.sides _ htm k hd
    have hs2 := hSS.on _ htm k hd hon
    have e1 : IntKind.i64.wrap (sideOf (tileAt s t) k - 1) = sideOf (tileAt s t) k - 1 := wrap_id (by omega)
    have e2 : 0 ≤ sideOf (tileAt s t) k - 1 := by omega
    have e3 : (s.g_Glues.map eGlue)[(sideOf (tileAt s t) k - 1).toNat]? = some (eGlue (s.g_Glues.getD (sideOf (tileAt s t) k - 1).toNat ⟨⟨#[]⟩, 0⟩)) := get_map eGlue (by omega)
    (repeat (first | ((repeat (revert hN; revert N; apply Pn.out)); refine wk (tw @h0 (tw @h1 (tw @h6 (tw @h9 (tw @h10 (tw @h11 (tw @hg (tw @hk4 (tw @hidx (tw @hnn (tw @hgk (tw @b1 (tw @b2 (tw @q5 (tw @q6 (tw @q7 (tw @q8 (tw @q9 (tw @hon (tw @hno (tw @hsd (tw @e1 (tw @e2 (tw @e3 (tw @eSet.eq_1 (tw @eCell.eq_1 (tw @eTile.eq_1 (tw @eBool.eq_1 (tw @eInt.eq_1 (tw @eGlue.eq_1 @ePoint.eq_1)))))))))))))))))))))))))))))) ?_; (repeat (refine Pn.mk ?_; intro N hN))) | ((try apply Or.inl); refine ⟨_, Ret.x (l01Step_v p k bx by_) _, ?_⟩; refine hN _ _ ?_; clear hN N) | ((try apply Or.inl); refine ⟨_, RetS.x (l31Index_v cells (stepP p k)) (sd (tw @h0 (tw @h1 (tw @h6 (tw @h9 (tw @h10 (tw @h11 (tw @hg (tw @hk4 (tw @hidx (tw @hnn (tw @hgk (tw @b1 (tw @b2 (tw @q5 (tw @q6 (tw @q7 (tw @q8 (tw @q9 (tw @hon (tw @hno (tw @hsd (tw @e1 (tw @e2 (tw @e3 (tw @eSet.eq_1 (tw @eCell.eq_1 (tw @eTile.eq_1 (tw @eBool.eq_1 (tw @eInt.eq_1 (tw @eGlue.eq_1 @ePoint.eq_1))))))))))))))))))))))))))))))), ?_⟩; refine hN _ _ ?_; clear hN N) | ((try apply Or.inl); refine ⟨_, Ret.x (Opposite_v k) _, ?_⟩; refine hN _ _ ?_; clear hN N)))
    exact next (sd (tw @h0 @eSet.eq_1)) (sd @h1) (sd @h6) (sd (tw @h9 @eTile.eq_1)) (by simp only [go_sem, ↓reduceIte, Nat.reduceEqDiff, Nat.reduceAdd, Nat.reduceSub, Nat.reduceLeDiff, reduceCtorEq, h10, strN, hgr, gStr]) (sd (tw @h11 @ek)) (sd (tw @hg @ePoint.eq_1))
  · have hk' : k = 4 := by omega
    subst hk'
    (try ((repeat (revert hN; revert N; apply Pn.out)); refine wk (tw @h0 (tw @h1 (tw @h6 (tw @h9 (tw @h10 (tw @h11 (tw @hg @hk4))))))) ?_; (repeat (refine Pn.mk ?_; intro N hN))))
    exact ret1Si (b := strN s cells p (tileAt s t) 4) (.inl rfl) (sd @h10) rfl


def bindB (s : D_SignalSet) (cells : List D_SignalCell) (c : D_SignalCell) (d : Int) : Bool := !bAt c.g_Bound d && meetsB s cells c d
def fireB (s : D_SignalSet) (c : D_SignalCell) (m : Nat) : Bool := !bAt c.g_Fired m && bAt c.g_Bound (fireAt (tileAt s c.g_Tile) m).g_From

set_option maxRecDepth 100000 in
set_option maxHeartbeats 4000000 in
theorem l31CanBind_v (s : D_SignalSet) (temp : Int) (cells : List D_SignalCell) (i : Nat) (hi : i < cells.length) (d : Int) (hd : d = 0 ∨ d = 1) (hix : idxN cells cells[i].g_At = i) (hS : SetForm s) (hF : ∀ c ∈ cells, FormOk s c) :
    RetS Tryz.prog 45 [.iptr (eSet s), .int .i64 temp, .sl (cells.map eCell), .agg (eEvent ⟨2, cells[i].g_At, d⟩)] (.bool (bindB s cells cells[i] d)) := by
  refine RetS.body cfE rfl fun hl n0 => ?_
  clear hl
  have hidx : idxI cells cells[i].g_At = (i : Int) := by rw [idxI, hix, if_pos hi]
  have hn : ¬ ((i : Int) < 0) := by omega
  have hgi : (cells.map eCell)[i]? = some (eCell cells[i]) := by simp [hi]
  have fi := hF _ (List.getElem_mem hi)
  have h3 : inB d 0 3 = true := inB_of (by omega)
  have b1 : (cells[i].g_Bound.map eBool)[d.toNat]? = some (eBool (bAt cells[i].g_Bound d)) := bool_get fi.bound h3
  have d0 : 0 ≤ d := by omega
  have hme := l31Meets_v s cells i hi d h3 hS hF
  cases hb : bAt cells[i].g_Bound d
  · rcases hd with rfl | rfl
    · simp only [Int.reduceToNat] at b1
      (repeat (first | ((repeat (revert hN; revert N; apply Pn.out)); refine wk (tw @hidx (tw @hn (tw @hgi (tw @b1 (tw @hb (tw @eEvent.eq_1 (tw @ePoint.eq_1 (tw @eCell.eq_1 @eBool.eq_1)))))))) ?_; (repeat (refine Pn.mk ?_; intro N hN))) | ((try apply Or.inl); refine ⟨_, RetS.x (l31Index_v cells cells[i].g_At) (sd (tw @hidx (tw @hn (tw @hgi (tw @b1 (tw @hb (tw @eEvent.eq_1 (tw @ePoint.eq_1 (tw @eCell.eq_1 @eBool.eq_1))))))))), ?_⟩; refine hN _ _ ?_; clear hN N) | ((try apply Or.inl); refine ⟨_, RetS.x (hme) (sd (tw @hidx (tw @hn (tw @hgi (tw @b1 (tw @hb (tw @eEvent.eq_1 (tw @ePoint.eq_1 (tw @eCell.eq_1 @eBool.eq_1))))))))), ?_⟩; refine hN _ _ ?_; clear hN N)))
      exact ret1Sb (b := meetsB s cells cells[i] 0) (.inl rfl) (sd @Nat.zero_add) (by simp [bindB, hb])
    · simp only [Int.reduceToNat] at b1
      (repeat (first | ((repeat (revert hN; revert N; apply Pn.out)); refine wk (tw @hidx (tw @hn (tw @hgi (tw @b1 (tw @hb (tw @eEvent.eq_1 (tw @ePoint.eq_1 (tw @eCell.eq_1 @eBool.eq_1)))))))) ?_; (repeat (refine Pn.mk ?_; intro N hN))) | ((try apply Or.inl); refine ⟨_, RetS.x (l31Index_v cells cells[i].g_At) (sd (tw @hidx (tw @hn (tw @hgi (tw @b1 (tw @hb (tw @eEvent.eq_1 (tw @ePoint.eq_1 (tw @eCell.eq_1 @eBool.eq_1))))))))), ?_⟩; refine hN _ _ ?_; clear hN N) | ((try apply Or.inl); refine ⟨_, RetS.x (hme) (sd (tw @hidx (tw @hn (tw @hgi (tw @b1 (tw @hb (tw @eEvent.eq_1 (tw @ePoint.eq_1 (tw @eCell.eq_1 @eBool.eq_1))))))))), ?_⟩; refine hN _ _ ?_; clear hN N)))
      exact ret1Sb (b := meetsB s cells cells[i] 1) (.inl rfl) (sd @Nat.zero_add) (by simp [bindB, hb])
  · rcases hd with rfl | rfl
    · simp only [Int.reduceToNat] at b1
      (repeat (first | ((repeat (revert hN; revert N; apply Pn.out)); refine wk (tw @hidx (tw @hn (tw @hgi (tw @b1 (tw @hb (tw @eEvent.eq_1 (tw @ePoint.eq_1 (tw @eCell.eq_1 @eBool.eq_1)))))))) ?_; (repeat (refine Pn.mk ?_; intro N hN))) | ((try apply Or.inl); refine ⟨_, RetS.x (l31Index_v cells cells[i].g_At) (sd (tw @hidx (tw @hn (tw @hgi (tw @b1 (tw @hb (tw @eEvent.eq_1 (tw @ePoint.eq_1 (tw @eCell.eq_1 @eBool.eq_1))))))))), ?_⟩; refine hN _ _ ?_; clear hN N)))
      exact ret1Sb (b := false) (.inl rfl) (sd @Nat.zero_add) (by simp [bindB, hb])
    · simp only [Int.reduceToNat] at b1
      (repeat (first | ((repeat (revert hN; revert N; apply Pn.out)); refine wk (tw @hidx (tw @hn (tw @hgi (tw @b1 (tw @hb (tw @eEvent.eq_1 (tw @ePoint.eq_1 (tw @eCell.eq_1 @eBool.eq_1)))))))) ?_; (repeat (refine Pn.mk ?_; intro N hN))) | ((try apply Or.inl); refine ⟨_, RetS.x (l31Index_v cells cells[i].g_At) (sd (tw @hidx (tw @hn (tw @hgi (tw @b1 (tw @hb (tw @eEvent.eq_1 (tw @ePoint.eq_1 (tw @eCell.eq_1 @eBool.eq_1))))))))), ?_⟩; refine hN _ _ ?_; clear hN N)))
      exact ret1Sb (b := false) (.inl rfl) (sd @Nat.zero_add) (by simp [bindB, hb])

set_option maxRecDepth 100000 in
set_option maxHeartbeats 4000000 in
theorem l31CanFire_v (s : D_SignalSet) (temp : Int) (cells : List D_SignalCell) (i : Nat) (hi : i < cells.length) (m : Nat) (hm : m < cells[i].g_Fired.length) (hix : idxN cells cells[i].g_At = i) (hS : SetForm s) (hF : ∀ c ∈ cells, FormOk s c) :
    RetS Tryz.prog 45 [.iptr (eSet s), .int .i64 temp, .sl (cells.map eCell), .agg (eEvent ⟨3, cells[i].g_At, m⟩)] (.bool (fireB s cells[i] m)) := by
  refine RetS.body cfE rfl fun hl n0 => ?_
  have hidx : idxI cells cells[i].g_At = (i : Int) := by rw [idxI, hix, if_pos hi]
  have hn : ¬ ((i : Int) < 0) := by omega
  have hgi : (cells.map eCell)[i]? = some (eCell cells[i]) := by simp [hi]
  have hnf : cells[i].g_Fired.length ≤ 9223372036854775807 := by
    have h1 := hl (.sl (cells.map eCell)) (by simp)
    simpa using ((h1.cell (cs := eCell cells[i]) (List.mem_map_of_mem (List.getElem_mem hi)) (a := .sl (cells[i].g_Fired.map eBool)) (by simp [eCell])).len)
  clear hl
  have fi := hF _ (List.getElem_mem hi)
  generalize cells[i] = c at *
  have e1 : IntKind.i64.wrap ((c.g_Fired.length : Int) - 1) = (c.g_Fired.length : Int) - 1 := wrap_id (by omega)
  have e2 : inB (m : Int) 0 ((c.g_Fired.length : Int) - 1) = true := inB_of (by omega)
  have g1 : (c.g_Fired.map eBool)[m]? = some (eBool (bAt c.g_Fired m)) := get_map eBool (d := false) hm
  have q1 := fi.t0
  have q2 := fi.tile
  have ft := hS _ (tile_mem fi.t0 fi.t1)
  have hm2 : m < (tileAt s c.g_Tile).g_Fires.length := by rw [← fi.fired]; exact hm
  have g2 : ((tileAt s c.g_Tile).g_Fires.map eFire)[m]? = some (eFire (fireAt (tileAt s c.g_Tile) m)) := get_map eFire hm2
  have hfr := (ft.fires (fireAt (tileAt s c.g_Tile) m) (by
        unfold fireAt
        rw [List.getD_eq_getElem?_getD, List.getElem?_eq_getElem hm2]
        exact List.getElem_mem hm2)).1
  have q9 := (inB_true hfr).1
  have g3 : (c.g_Bound.map eBool)[(fireAt (tileAt s c.g_Tile) m).g_From.toNat]? = some (eBool (bAt c.g_Bound (fireAt (tileAt s c.g_Tile) m).g_From)) := bool_get fi.bound hfr
  cases hb : bAt c.g_Fired m
  · (repeat (first | ((repeat (revert hN; revert N; apply Pn.out)); refine wk (tw @hidx (tw @hn (tw @hgi (tw @e1 (tw @e2 (tw @g1 (tw @g2 (tw @g3 (tw @q1 (tw @q2 (tw @q9 (tw @hb (tw @eSet.eq_1 (tw @eTile.eq_1 (tw @eFire.eq_1 (tw @eEvent.eq_1 (tw @ePoint.eq_1 (tw @eCell.eq_1 @eBool.eq_1)))))))))))))))))) ?_; (repeat (refine Pn.mk ?_; intro N hN))) | ((try apply Or.inl); refine ⟨_, RetS.x (l31Index_v cells c.g_At) (sd (tw @hidx (tw @hn (tw @hgi (tw @e1 (tw @e2 (tw @g1 (tw @g2 (tw @g3 (tw @q1 (tw @q2 (tw @q9 (tw @hb (tw @eSet.eq_1 (tw @eTile.eq_1 (tw @eFire.eq_1 (tw @eEvent.eq_1 (tw @ePoint.eq_1 (tw @eCell.eq_1 @eBool.eq_1))))))))))))))))))), ?_⟩; refine hN _ _ ?_; clear hN N) | ((try apply Or.inl); refine ⟨_, Ret.x (l00In_v _ _ _) _, ?_⟩; refine hN _ _ ?_; clear hN N)))
    exact ret1Sb (b := bAt c.g_Bound (fireAt (tileAt s c.g_Tile) m).g_From) (.inl rfl) (sd @Nat.zero_add) (by simp [fireB, hb])
  · (repeat (first | ((repeat (revert hN; revert N; apply Pn.out)); refine wk (tw @hidx (tw @hn (tw @hgi (tw @e1 (tw @e2 (tw @g1 (tw @hb (tw @eEvent.eq_1 (tw @ePoint.eq_1 (tw @eCell.eq_1 @eBool.eq_1)))))))))) ?_; (repeat (refine Pn.mk ?_; intro N hN))) | ((try apply Or.inl); refine ⟨_, RetS.x (l31Index_v cells c.g_At) (sd (tw @hidx (tw @hn (tw @hgi (tw @e1 (tw @e2 (tw @g1 (tw @hb (tw @eEvent.eq_1 (tw @ePoint.eq_1 (tw @eCell.eq_1 @eBool.eq_1))))))))))), ?_⟩; refine hN _ _ ?_; clear hN N) | ((try apply Or.inl); refine ⟨_, Ret.x (l00In_v _ _ _) _, ?_⟩; refine hN _ _ ?_; clear hN N)))
    exact ret1Sb (b := false) (.inl rfl) (sd @Nat.zero_add) (by simp [fireB, hb])

set_option maxRecDepth 100000 in
set_option maxHeartbeats 4000000 in
theorem l31CanAtt_v (s : D_SignalSet) (temp : Int) (cells : List D_SignalCell) (p : D_Point) (k : Nat) (hk : k < s.g_Tiles.length) (hp : ptB p = true) (hix : ¬ idxN cells p < cells.length) (hS : SetForm s) (hSS : SetSides s) (hF : ∀ c ∈ cells, FormOk s c) :
    RetS Tryz.prog 45 [.iptr (eSet s), .int .i64 temp, .sl (cells.map eCell), .agg (eEvent ⟨1, p, k⟩)] (.bool (decide (temp ≤ strN s cells p (tileAt s k) 4))) := by
  refine RetS.body cfE rfl fun hl n0 => ?_
  have hnt : s.g_Tiles.length ≤ 9223372036854775807 := by simpa [eSet] using ((hl (.iptr (eSet s)) (by simp)).iptrc (a := .sl (s.g_Tiles.map eTile)) (by simp [eSet])).len
  clear hl
  have hidx : idxI cells p = -1 := if_neg hix
  have e1 : IntKind.i64.wrap ((s.g_Tiles.length : Int) - 1) = (s.g_Tiles.length : Int) - 1 := wrap_id (by omega)
  have e2 : inB (k : Int) 0 ((s.g_Tiles.length : Int) - 1) = true := inB_of (by omega)
  (repeat (first | ((repeat (revert hN; revert N; apply Pn.out)); refine wk (tw @hidx (tw @hp (tw @e1 (tw @e2 (tw @eSet.eq_1 (tw @eEvent.eq_1 @ePoint.eq_1)))))) ?_; (repeat (refine Pn.mk ?_; intro N hN))) | ((try apply Or.inl); refine ⟨_, RetS.x (l31Index_v cells p) (sd (tw @hidx (tw @hp (tw @e1 (tw @e2 (tw @eSet.eq_1 (tw @eEvent.eq_1 @ePoint.eq_1))))))), ?_⟩; refine hN _ _ ?_; clear hN N) | ((try apply Or.inl); refine ⟨_, Ret.x (l01Point_v p) _, ?_⟩; refine hN _ _ ?_; clear hN N) | ((try apply Or.inl); refine ⟨_, Ret.x (l00In_v _ _ _) _, ?_⟩; refine hN _ _ ?_; clear hN N) | ((try apply Or.inl); refine ⟨_, RetS.x (l31Strength_v s cells p k (by omega) (by omega) hp hS hSS hF) (sd (tw @hidx (tw @hp (tw @e1 (tw @e2 (tw @eSet.eq_1 (tw @eEvent.eq_1 @ePoint.eq_1))))))), ?_⟩; refine hN _ _ ?_; clear hN N)))
  exact ret1Sb (.inl rfl) (sd @Nat.zero_add) rfl


def formB (s : D_SignalSet) (c : D_SignalCell) : Bool := ptB c.g_At && (inB c.g_Tile 0 ((s.g_Tiles.length : Int) - 1) && (decide (c.g_On.length = 4) && (decide (c.g_Bound.length = 4) && decide (c.g_Fired.length = (tileAt s c.g_Tile).g_Fires.length))))

set_option maxRecDepth 100000 in
set_option maxHeartbeats 4000000 in
theorem l31Lists_v (s : D_SignalSet) (c : D_SignalCell) : RetS Tryz.prog 103 [.iptr (eSet s), .iptr (eCell c)] (.bool (formB s c)) := by
  refine RetS.body cfE rfl fun hl n0 => ?_
  have hn : s.g_Tiles.length ≤ 9223372036854775807 := by simpa [eSet] using ((hl (.iptr (eSet s)) (by simp)).iptrc (a := .sl (s.g_Tiles.map eTile)) (by simp [eSet])).len
  have e1 : IntKind.i64.wrap ((s.g_Tiles.length : Int) - 1) = (s.g_Tiles.length : Int) - 1 := wrap_id (by omega)
  clear hl
  ((repeat (first | (refine w_seq fun N hN => ?_) | (refine w_reg fun N hN => ?_) | (refine w_op fun N hN => ?_; simp only [go_sem, ↓reduceIte, Nat.reduceEqDiff, Nat.reduceAdd, Nat.reduceSub, Nat.reduceLeDiff, reduceCtorEq, eSet, eCell, ePoint, e1]; try (refine hN _ _ ?_; clear hN N)) | (refine w_nil ?_; refine hN _ _ ?_; clear hN N; try (simp only [seqQ, blockQ, ↓reduceIte, Nat.reduceEqDiff]); try (refine hN _ _ ?_; clear hN N)) | (refine w_block ?_) | (refine w_skip ?_; try (simp only [seqQ, blockQ, ↓reduceIte, Nat.reduceEqDiff]); try (refine hN _ _ ?_; clear hN N)) | (refine w_exit ?_; try (simp only [seqQ, blockQ, ↓reduceIte, Nat.reduceEqDiff])) | (refine w_ret ?_; try (simp only [seqQ, blockQ])) | (refine hN _ _ ?_; clear hN N) | (clear hN N; refine hN _ _ ?_; clear hN N) | (clear hN N; clear hN N; refine hN _ _ ?_; clear hN N) | (clear hN N; clear hN N; clear hN N; refine hN _ _ ?_; clear hN N) | (clear hN N; clear hN N; clear hN N; clear hN N; refine hN _ _ ?_; clear hN N) | (refine w_condT ?_ ?_; focus (simp only [go_sem, ↓reduceIte, Nat.reduceEqDiff, Nat.reduceAdd, Nat.reduceSub, Nat.reduceLeDiff, reduceCtorEq, eSet, eCell, ePoint, e1]; done)) | (refine w_condF ?_ ?_; focus (simp only [go_sem, ↓reduceIte, Nat.reduceEqDiff, Nat.reduceAdd, Nat.reduceSub, Nat.reduceLeDiff, reduceCtorEq, eSet, eCell, ePoint, e1]; done)) | ((first | refine .inl ⟨_, Ret.x (l01Point_v c.g_At) _, ?_⟩ | refine ⟨_, Ret.x (l01Point_v c.g_At) _, ?_⟩); refine hN _ _ ?_; clear hN N) | ((first | refine .inl ⟨_, Ret.x (l00In_v _ _ _) _, ?_⟩ | refine ⟨_, Ret.x (l00In_v _ _ _) _, ?_⟩); refine hN _ _ ?_; clear hN N))); repeat' ((first | (refine w_ite (fun hs => ?_) (fun hs => ?_) <;> (try simp only [Bool.not_eq_true] at hs) <;> (simp only [hs, eq_self, decide_true, decide_false] at hN) <;> (refine hN _ _ ?_; clear hN N)) | (refine w_condS ?_; simp only [go_sem, ↓reduceIte, Nat.reduceEqDiff, Nat.reduceAdd, Nat.reduceSub, Nat.reduceLeDiff, reduceCtorEq, eSet, eCell, ePoint, e1]; refine w_ite (fun hs => ?_) (fun hs => ?_) <;> (try simp only [Bool.not_eq_true] at hs) <;> (try simp only [hs, eq_self, decide_true, decide_false])) | (simp only [go_sem, ↓reduceIte, Nat.reduceEqDiff, Nat.reduceAdd, Nat.reduceSub, Nat.reduceLeDiff, reduceCtorEq, eSet, eCell, ePoint, e1]; refine hN _ _ ?_; clear hN N)) <;> (repeat (first | (refine w_seq fun N hN => ?_) | (refine w_reg fun N hN => ?_) | (refine w_op fun N hN => ?_; simp only [go_sem, ↓reduceIte, Nat.reduceEqDiff, Nat.reduceAdd, Nat.reduceSub, Nat.reduceLeDiff, reduceCtorEq, eSet, eCell, ePoint, e1]; try (refine hN _ _ ?_; clear hN N)) | (refine w_nil ?_; refine hN _ _ ?_; clear hN N; try (simp only [seqQ, blockQ, ↓reduceIte, Nat.reduceEqDiff]); try (refine hN _ _ ?_; clear hN N)) | (refine w_block ?_) | (refine w_skip ?_; try (simp only [seqQ, blockQ, ↓reduceIte, Nat.reduceEqDiff]); try (refine hN _ _ ?_; clear hN N)) | (refine w_exit ?_; try (simp only [seqQ, blockQ, ↓reduceIte, Nat.reduceEqDiff])) | (refine w_ret ?_; try (simp only [seqQ, blockQ])) | (refine hN _ _ ?_; clear hN N) | (clear hN N; refine hN _ _ ?_; clear hN N) | (clear hN N; clear hN N; refine hN _ _ ?_; clear hN N) | (clear hN N; clear hN N; clear hN N; refine hN _ _ ?_; clear hN N) | (clear hN N; clear hN N; clear hN N; clear hN N; refine hN _ _ ?_; clear hN N) | (refine w_condT ?_ ?_; focus (simp only [go_sem, ↓reduceIte, Nat.reduceEqDiff, Nat.reduceAdd, Nat.reduceSub, Nat.reduceLeDiff, reduceCtorEq, eSet, eCell, ePoint, e1]; done)) | (refine w_condF ?_ ?_; focus (simp only [go_sem, ↓reduceIte, Nat.reduceEqDiff, Nat.reduceAdd, Nat.reduceSub, Nat.reduceLeDiff, reduceCtorEq, eSet, eCell, ePoint, e1]; done)) | ((first | refine .inl ⟨_, Ret.x (l01Point_v c.g_At) _, ?_⟩ | refine ⟨_, Ret.x (l01Point_v c.g_At) _, ?_⟩); refine hN _ _ ?_; clear hN N) | ((first | refine .inl ⟨_, Ret.x (l00In_v _ _ _) _, ?_⟩ | refine ⟨_, Ret.x (l00In_v _ _ _) _, ?_⟩); refine hN _ _ ?_; clear hN N)))))
  · have hin : inB c.g_Tile 0 ((s.g_Tiles.length : Int) - 1) = true := by assumption
    have h0 : 0 ≤ c.g_Tile := (inB_true hin).1
    have h1 : c.g_Tile < s.g_Tiles.length := by have := (inB_true hin).2; omega
    have q := get_map eTile (d := noTile) (toNat_lt h1 h0)
    simp only [go_sem, ↓reduceIte, Nat.reduceEqDiff, Nat.reduceAdd, Nat.reduceSub, Nat.reduceLeDiff, reduceCtorEq, h0, q, eTile]
    refine hN _ _ ?_; clear hN N
    (try ((repeat (revert hN; revert N; apply Pn.out)); refine wk (tw @h0 (tw @q @eTile.eq_1)) ?_; (repeat (refine Pn.mk ?_; intro N hN))))
    refine ret1Sb (b := decide (c.g_Fired.length = (tileAt s c.g_Tile).g_Fires.length)) (.inl rfl) ?_ ?_
    · simp only [go_sem, ↓reduceIte, Nat.reduceEqDiff, Nat.reduceAdd, Nat.reduceSub, Nat.reduceLeDiff, reduceCtorEq, tileAt]; norm_cast
    · norm_cast at *
      simp_all [formB]
  all_goals
    refine ret1Sb (b := false) (.inl rfl) ?_ ?_
    · simp only [go_sem, ↓reduceIte, Nat.reduceEqDiff, Nat.reduceAdd, Nat.reduceSub, Nat.reduceLeDiff, reduceCtorEq]
    · norm_cast at *
      simp_all [formB]


def cellAt (cells : List D_SignalCell) (i : Nat) : D_SignalCell := cells.getD i ⟨⟨0, 0⟩, 0, [], [], []⟩
theorem cellAt_eq {cells : List D_SignalCell} {i : Nat} (h : i < cells.length) : cellAt cells i = cells[i] := by simp [cellAt, List.getD_eq_getElem?_getD, h]
def linB (s : D_SignalSet) (cells : List D_SignalCell) (i : Nat) : Bool := formB s (cellAt cells i) && (decide (i = 0) || ltB (cellAt cells (i - 1)).g_At (cellAt cells i).g_At)
def okL (s : D_SignalSet) (cells : List D_SignalCell) (cB : Nat → Bool) : Bool := (List.range cells.length).all (linB s cells) && (List.range cells.length).all cB
theorem okL_true {s : D_SignalSet} {cells : List D_SignalCell} {cB : Nat → Bool} (h1 : ∀ j : Nat, j < cells.length → linB s cells j = true) (h2 : ∀ j : Nat, j < cells.length → cB j = true) : okL s cells cB = true := by
  simp only [okL, Bool.and_eq_true, List.all_eq_true, List.mem_range]
  exact ⟨h1, h2⟩
theorem okL_lin {s : D_SignalSet} {cells : List D_SignalCell} {cB : Nat → Bool} {j : Nat} (hj : j < cells.length) (h : linB s cells j = false) : okL s cells cB = false := by
  rw [Bool.eq_false_iff]
  intro hc
  simp only [okL, Bool.and_eq_true, List.all_eq_true, List.mem_range] at hc
  rw [hc.1 j hj] at h
  cases h
theorem okL_cell {s : D_SignalSet} {cells : List D_SignalCell} {cB : Nat → Bool} {j : Nat} (hj : j < cells.length) (h : cB j = false) : okL s cells cB = false := by
  rw [Bool.eq_false_iff]
  intro hc
  simp only [okL, Bool.and_eq_true, List.all_eq_true, List.mem_range] at hc
  rw [hc.2 j hj] at h
  cases h
theorem form_ok {s : D_SignalSet} {c : D_SignalCell} (h : formB s c = true) : FormOk s c := by
  simp only [formB, Bool.and_eq_true, decide_eq_true_eq] at h
  obtain ⟨a, b, d, e, f⟩ := h
  have := inB_true b
  exact ⟨a, this.1, by omega, d, e, f⟩

set_option maxRecDepth 100000 in
set_option maxHeartbeats 4000000 in
theorem l31Ok_v (s : D_SignalSet) (cells : List D_SignalCell) (b : Bool) (cB : Nat → Bool) (hset : RetS Tryz.prog 102 [.iptr (eSet s)] (.bool b)) (hSF : b = true → SetForm s)
    (hcell : SetForm s → (∀ c ∈ cells, FormOk s c) → ∀ i, i < cells.length → RetS Tryz.prog 104 [.iptr (eSet s), .sl (cells.map eCell), .int .i64 i] (.bool (cB i))) :
    RetS Tryz.prog 62 [.iptr (eSet s), .sl (cells.map eCell)] (.bool (b && (decide (cells.length ≤ 80) && okL s cells cB))) := by
  refine RetS.body cfE rfl fun hl n0 => ?_
  have hn : cells.length ≤ 9223372036854775807 := by simpa using (hl (.sl (cells.map eCell)) (by simp)).len
  clear hl
  cases b
  · (repeat (first | ((repeat (revert hN; revert N; apply Pn.out)); refine wk @Nat.zero_add ?_; (repeat (refine Pn.mk ?_; intro N hN))) | ((try apply Or.inl); refine ⟨_, RetS.x (hset) (sd @Nat.zero_add), ?_⟩; refine hN _ _ ?_; clear hN N)))
    exact ret1Sb (b := false) (.inl rfl) (sd @Nat.zero_add) (by simp)
  have hS := hSF rfl
  by_cases h80 : (80 : Int) < cells.length
  · (repeat (first | ((repeat (revert hN; revert N; apply Pn.out)); refine wk @h80 ?_; (repeat (refine Pn.mk ?_; intro N hN))) | ((try apply Or.inl); refine ⟨_, RetS.x (hset) (sd @h80), ?_⟩; refine hN _ _ ?_; clear hN N)))
    exact ret1Sb (b := false) (.inl rfl) (sd @Nat.zero_add) (by simp [show ¬ cells.length ≤ 80 from (by omega)])
  have h80' : cells.length ≤ 80 := by omega
  (repeat (first | ((repeat (revert hN; revert N; apply Pn.out)); refine wk @h80 ?_; (repeat (refine Pn.mk ?_; intro N hN))) | ((try apply Or.inl); refine ⟨_, RetS.x (hset) (sd @h80), ?_⟩; refine hN _ _ ?_; clear hN N)))
  refine w_loopC (fun n env st => ∃ k : Nat, n = cells.length - k ∧ k ≤ cells.length ∧ (∀ j : Nat, j < k → linB s cells j = true) ∧ env 0 = .iptr (eSet s) ∧ env 1 = .sl (cells.map eCell) ∧ env 5 = .int .i64 k) cells.length ⟨0, by omega, by omega, fun j h => by omega, sd @Nat.zero_add, sd @Nat.zero_add, by simp only [go_sem, ↓reduceIte, Nat.reduceEqDiff, Nat.reduceAdd, Nat.reduceSub, Nat.reduceLeDiff, reduceCtorEq]; rfl⟩ ?_
  rintro n env st ⟨k, rfl, hk, hne, h0, h1, h5⟩
  by_cases hkn : (k : Int) < (cells.length : Int)
  · have hgk : (cells.map eCell)[k]? = some (eCell (cellAt cells k)) := get_map eCell (by omega)
    have next : ∀ {e : Env}, e 0 = .iptr (eSet s) → e 1 = .sl (cells.map eCell) → e 5 = .int .i64 (IntKind.i64.wrap ((k : Int) + 1)) → linB s cells k = true → ∃ m', m' < cells.length - k ∧ ∃ m1 : Nat, m' = cells.length - m1 ∧ m1 ≤ cells.length ∧ (∀ j : Nat, j < m1 → linB s cells j = true) ∧ e 0 = .iptr (eSet s) ∧ e 1 = .sl (cells.map eCell) ∧ e 5 = .int .i64 m1 := by
      intro e a0 a1 a5 a10
      refine ⟨_, by omega, k + 1, rfl, by omega, fun j hj => ?_, a0, a1, by rw [a5, wrap_succ (n := cells.length) (by omega) hn]⟩
      by_cases hjk : j = k
      · subst hjk; exact a10
      · exact hne j (by omega)
    have hl : ∀ c : D_SignalCell, (eCell c).length = 6 := fun c => rfl
    have hd : ∀ c : D_SignalCell, (eCell c).drop 0 = eCell c := fun c => rfl
    have ht : ∀ c : D_SignalCell, (eCell c).take 2 = ePoint c.g_At := fun c => rfl
    have hle : ∀ c : D_SignalCell, (2 ≤ (eCell c).length) = True := fun c => by simp [eCell]
    cases hf : formB s (cellAt cells k)
    · (repeat (first | ((repeat (revert hN; revert N; apply Pn.out)); refine wk (tw @h0 (tw @h1 (tw @h5 (tw @hkn (tw @hgk (tw @hf @hl)))))) ?_; (repeat (refine Pn.mk ?_; intro N hN))) | ((try apply Or.inl); refine ⟨_, RetS.x (l31Lists_v s (cellAt cells k)) (sd (tw @h0 (tw @h1 (tw @h5 (tw @hkn (tw @hgk (tw @hf @hl))))))), ?_⟩; refine hN _ _ ?_; clear hN N)))
      exact ret1Sb (b := false) (.inl rfl) (sd @Nat.zero_add) (by rw [okL_lin (j := k) (by omega) (by simp [linB, hf])]; simp)
    by_cases hk0 : (0 : Int) < k
    · have e1 : IntKind.i64.wrap ((k : Int) - 1) = ((k - 1 : Nat) : Int) := by rw [wrap_id (by omega)]; omega
      have hgj : (cells.map eCell)[k - 1]? = some (eCell (cellAt cells (k - 1))) := get_map eCell (by omega)
      cases hlt : ltB (cellAt cells (k - 1)).g_At (cellAt cells k).g_At
      · (repeat (first | ((repeat (revert hN; revert N; apply Pn.out)); refine wk (tw @h0 (tw @h1 (tw @h5 (tw @hkn (tw @hgk (tw @hgj (tw @hf (tw @hk0 (tw @e1 (tw @hl (tw @hd (tw @ht (tw @hle @hlt))))))))))))) ?_; (repeat (refine Pn.mk ?_; intro N hN))) | ((try apply Or.inl); refine ⟨_, RetS.x (l31Lists_v s (cellAt cells k)) (sd (tw @h0 (tw @h1 (tw @h5 (tw @hkn (tw @hgk (tw @hgj (tw @hf (tw @hk0 (tw @e1 (tw @hl (tw @hd (tw @ht (tw @hle @hlt)))))))))))))), ?_⟩; refine hN _ _ ?_; clear hN N) | ((try apply Or.inl); refine ⟨_, Ret.x (sLess_v (cellAt cells (k - 1)).g_At (cellAt cells k).g_At) _, ?_⟩; refine hN _ _ ?_; clear hN N)))
        exact ret1Sb (b := false) (.inl rfl) (sd @Nat.zero_add) (by rw [okL_lin (j := k) (by omega) (by simp [linB, hlt]; omega)]; simp)
      · (repeat (first | ((repeat (revert hN; revert N; apply Pn.out)); refine wk (tw @h0 (tw @h1 (tw @h5 (tw @hkn (tw @hgk (tw @hgj (tw @hf (tw @hk0 (tw @e1 (tw @hl (tw @hd (tw @ht (tw @hle @hlt))))))))))))) ?_; (repeat (refine Pn.mk ?_; intro N hN))) | ((try apply Or.inl); refine ⟨_, RetS.x (l31Lists_v s (cellAt cells k)) (sd (tw @h0 (tw @h1 (tw @h5 (tw @hkn (tw @hgk (tw @hgj (tw @hf (tw @hk0 (tw @e1 (tw @hl (tw @hd (tw @ht (tw @hle @hlt)))))))))))))), ?_⟩; refine hN _ _ ?_; clear hN N) | ((try apply Or.inl); refine ⟨_, Ret.x (sLess_v (cellAt cells (k - 1)).g_At (cellAt cells k).g_At) _, ?_⟩; refine hN _ _ ?_; clear hN N)))
        refine next (sd @h0) (sd @h1) (sd @h5) (by simp [linB, hf, hlt])
    · (repeat (first | ((repeat (revert hN; revert N; apply Pn.out)); refine wk (tw @h0 (tw @h1 (tw @h5 (tw @hkn (tw @hgk (tw @hf (tw @hk0 @hl))))))) ?_; (repeat (refine Pn.mk ?_; intro N hN))) | ((try apply Or.inl); refine ⟨_, RetS.x (l31Lists_v s (cellAt cells k)) (sd (tw @h0 (tw @h1 (tw @h5 (tw @hkn (tw @hgk (tw @hf (tw @hk0 @hl)))))))), ?_⟩; refine hN _ _ ?_; clear hN N)))
      refine next (sd @h0) (sd @h1) (sd @h5) (by simp only [linB, hf, Bool.true_and, Bool.or_eq_true, decide_eq_true_eq]; omega)
  · have hk' : k = cells.length := by omega
    subst hk'
    have hF : ∀ c ∈ cells, FormOk s c := fun c hc => by
      obtain ⟨j, hj, rfl⟩ := List.getElem_of_mem hc
      have := hne j hj
      simp only [linB, Bool.and_eq_true, cellAt_eq hj] at this
      exact form_ok this.1
    (try ((repeat (revert hN; revert N; apply Pn.out)); refine wk (tw @h0 (tw @h1 (tw @h5 @hkn))) ?_; (repeat (refine Pn.mk ?_; intro N hN))))
    refine w_loopC (fun n env st => ∃ k : Nat, n = cells.length - k ∧ k ≤ cells.length ∧ (∀ j : Nat, j < k → cB j = true) ∧ env 0 = .iptr (eSet s) ∧ env 1 = .sl (cells.map eCell) ∧ env 6 = .int .i64 k) cells.length ⟨0, by omega, by omega, fun j h => by omega, sd @h0, sd @h1, by simp only [go_sem, ↓reduceIte, Nat.reduceEqDiff, Nat.reduceAdd, Nat.reduceSub, Nat.reduceLeDiff, reduceCtorEq]; rfl⟩ ?_
    clear h0 h1 h5
    rintro n env st ⟨k, rfl, hk, hcs, h0, h1, h6⟩
    by_cases hkn : (k : Int) < (cells.length : Int)
    · have ek := wrap_succ (k := k) (n := cells.length) (by omega) hn
      have hck := hcell hS hF k (by omega)
      cases hcb : cB k
      · (repeat (first | ((repeat (revert hN; revert N; apply Pn.out)); refine wk (tw @h0 (tw @h1 (tw @h6 (tw @hkn @hcb)))) ?_; (repeat (refine Pn.mk ?_; intro N hN))) | ((try apply Or.inl); refine ⟨_, RetS.x (hck) (sd (tw @h0 (tw @h1 (tw @h6 (tw @hkn @hcb))))), ?_⟩; refine hN _ _ ?_; clear hN N)))
        exact ret1Sb (b := false) (.inl rfl) (sd @Nat.zero_add) (by rw [okL_cell (j := k) (by omega) hcb]; simp)
      · (repeat (first | ((repeat (revert hN; revert N; apply Pn.out)); refine wk (tw @h0 (tw @h1 (tw @h6 (tw @hkn @hcb)))) ?_; (repeat (refine Pn.mk ?_; intro N hN))) | ((try apply Or.inl); refine ⟨_, RetS.x (hck) (sd (tw @h0 (tw @h1 (tw @h6 (tw @hkn @hcb))))), ?_⟩; refine hN _ _ ?_; clear hN N)))
        refine ⟨_, ?_, k + 1, rfl, by omega, fun j hj => ?_, sd @h0, sd @h1, sd (tw @h6 @ek)⟩
        · omega
        · by_cases hjk : j = k
          · subst hjk; exact hcb
          · exact hcs j (by omega)
    · (try ((repeat (revert hN; revert N; apply Pn.out)); refine wk (tw @h0 (tw @h1 (tw @h6 @hkn))) ?_; (repeat (refine Pn.mk ?_; intro N hN))))
      exact ret1Sb (b := true) (.inl rfl) (sd @Nat.zero_add) (by rw [okL_true hne fun j hj => hcs j (by omega)]; simp [h80'])


set_option maxRecDepth 100000 in
set_option maxHeartbeats 4000000 in
/-- 1: the cells are not right; 2: the temperature is not. -/
theorem l31Asked_v (s : D_SignalSet) (cells : List D_SignalCell) (temp : Int) (b : Bool) (hok : RetS Tryz.prog 62 [.iptr (eSet s), .sl (cells.map eCell)] (.bool b)) :
    RetS Tryz.prog 31 [.iptr (eSet s), .int .i64 temp, .sl (cells.map eCell)] (.int .i64 (if b then (if inB temp 1 16 then 0 else 2) else 1)) := by
  refine RetS.body cfE rfl fun hl n0 => ?_
  clear hl
  cases b
  · (repeat (first | ((repeat (revert hN; revert N; apply Pn.out)); refine wk @Nat.zero_add ?_; (repeat (refine Pn.mk ?_; intro N hN))) | ((try apply Or.inl); refine ⟨_, RetS.x (hok) (sd @Nat.zero_add), ?_⟩; refine hN _ _ ?_; clear hN N)))
    exact ret1Si (b := 1) (.inl rfl) (sd @Nat.zero_add) (by simp)
  cases ht : inB temp 1 16
  · (repeat (first | ((repeat (revert hN; revert N; apply Pn.out)); refine wk @ht ?_; (repeat (refine Pn.mk ?_; intro N hN))) | ((try apply Or.inl); refine ⟨_, RetS.x (hok) (sd @ht), ?_⟩; refine hN _ _ ?_; clear hN N) | ((try apply Or.inl); refine ⟨_, Ret.x (l07Temp_v temp) _, ?_⟩; refine hN _ _ ?_; clear hN N)))
    exact ret1Si (b := 2) (.inl rfl) (sd @Nat.zero_add) (by simp)
  · (repeat (first | ((repeat (revert hN; revert N; apply Pn.out)); refine wk @ht ?_; (repeat (refine Pn.mk ?_; intro N hN))) | ((try apply Or.inl); refine ⟨_, RetS.x (hok) (sd @ht), ?_⟩; refine hN _ _ ?_; clear hN N) | ((try apply Or.inl); refine ⟨_, Ret.x (l07Temp_v temp) _, ?_⟩; refine hN _ _ ?_; clear hN N)))
    exact ret1Si (b := 0) (.inl rfl) (sd @Nat.zero_add) (by simp)

end Go.Proofs.YtpbniieiinhliaaGreat.V
