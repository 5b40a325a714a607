/- The program finds a cell. -/
import Derived.Test.YtpbniieiinhliaaGreatRnH
import Derived.Test.YtpbniieiinhliaaGreatRnI
set_option linter.unusedVariables false
set_option linter.unusedSimpArgs false
namespace Go.Proofs.YtpbniieiinhliaaGreat.V
open Go.RowKit
attribute [local irreducible] wpv wpOps PCx Call
attribute [local go_sem] wantedV vop qop eop vis evO upd envOf K.av boxOf AV.cells AV.cell rowOf rowsOf part ld rowAt setR killR ibin vbin vsh vclear vsbin sbin eq1 eqL xorB vnil vnilS vnilF hiOf loOf vslice vsliceS viaddr vidxS vidxA vlen vnot vneg vconv vconvS vpick vchk vfield vextract vlenS fillV vmk rowsIn putCs vstore vappend seqQ blockQ most AV.undef callW locP locQ List.getD_cons_zero List.getD_cons_succ List.getD_nil List.all_cons List.all_nil Bool.and_true Bool.true_and Bool.and_self Bool.not_true Bool.not_false Option.map_some Option.map_none Option.bind_some Option.bind_none List.length_cons List.length_nil List.take_succ_cons List.take_zero List.take_nil List.drop_succ_cons List.drop_zero List.drop_nil List.head?_cons List.map_cons List.map_nil List.getElem?_cons_zero List.getElem?_cons_succ List.cons_append List.nil_append List.append_nil List.length_map List.set_cons_zero List.set_cons_succ Nat.reduceMul eq_self Int.toNat_natCast Int.natCast_nonneg and_self true_and and_true decide_true decide_false Bool.false_eq_true Nat.zero_add Nat.add_zero List.contains_cons List.contains_nil Bool.or_false Bool.false_or beq_self_eq_true Nat.reduceBEq ne_eq not_true_eq_false not_false_eq_true Id.mk.injEq false_and and_false Nat.reduceLT Int.reduceLE Int.reduceLT Int.reduceToNat Int.reduceNeg Int.reduceAdd Nat.le_refl List.length_append beq_true beq_false Bool.not_eq_eq_eq_not or_false false_or rw_ fzRow_cons fzRow_nil fz_int fz_bool fz_str fz_sl fz_nils fz_agg fz_iptr fz_ptrE fz_fn

def RisC (cells : List D_SignalCell) : Prop := ∀ i j : Nat, i < j → j < cells.length → ltB (cellAt cells i).g_At (cellAt cells j).g_At = true

set_option maxRecDepth 100000 in
set_option maxHeartbeats 4000000 in
theorem at1_v (c : D_SignalCell) (p : D_Point) : RetS Tryz.prog 121 [.agg (eCell c), .agg (ePoint p)] (.int .i64 (cmpP c.g_At p)) := by
  refine RetS.body cfE rfl fun hl n0 => ?_
  clear hl
  (repeat (first | ((repeat (revert hN; revert N; apply Pn.out)); refine wk (tw @eCell.eq_1 @ePoint.eq_1) ?_; (repeat (refine Pn.mk ?_; intro N hN))) | ((try apply Or.inl); refine ⟨_, Ret.x (comparePoints_v c.g_At p) _, ?_⟩; refine hN _ _ ?_; clear hN N)))
  exact ret1Si (.inl rfl) (sd @Nat.zero_add) rfl

theorem cmpP_zero (a b : D_Point) : (cmpP a b = 0) ↔ a = b := by
  cases a; cases b
  unfold cmpP orI cmp1
  simp only [D_Point.mk.injEq]
  split <;> (try split) <;> (try split) <;> (try split) <;> omega
/-- The first cell that is not before a point. -/
def lowN (cells : List D_SignalCell) (p : D_Point) : Nat := cells.findIdx fun c => !ltB c.g_At p
theorem lowN_of {cells : List D_SignalCell} {p : D_Point} {i : Nat} (hi : i ≤ cells.length) (h1 : ∀ x, x < i → ltB (cellAt cells x).g_At p = true) (h2 : i < cells.length → ltB (cellAt cells i).g_At p = false) : lowN cells p = i := by
  unfold lowN
  by_cases h : i < cells.length
  · rw [List.findIdx_eq h]
    refine ⟨by have := h2 h; rw [cellAt_eq h] at this; simp [this], fun j hj => ?_⟩
    have := h1 j hj
    rw [cellAt_eq (by omega)] at this
    simp [this]
  · have : i = cells.length := by omega
    subst this
    refine List.findIdx_eq_length_of_false fun x hx => ?_
    obtain ⟨j, hj, rfl⟩ := List.getElem_of_mem hx
    have := h1 j hj
    rw [cellAt_eq hj] at this
    simp [this]

set_option maxRecDepth 100000 in
set_option maxHeartbeats 4000000 in
theorem bsearchF_v (fk : Nat) (cells : List D_SignalCell) (p : D_Point) (hat : ∀ c : D_SignalCell, RetS Tryz.prog fk [.agg (eCell c), .agg (ePoint p)] (.int .i64 (cmpP c.g_At p))) (hR : RisC cells) (h80 : cells.length ≤ 1048576) :
    RetS Tryz.prog 90 [.sl (cells.map eCell), .agg (ePoint p), .fn fk []] (.tup [.int .i64 (lowN cells p), .bool (decide (lowN cells p < cells.length) && decide ((cellAt cells (lowN cells p)).g_At = p))]) := by
  refine RetS.body cfE rfl fun hl n0 => ?_
  clear hl
  (try ((repeat (revert hN; revert N; apply Pn.out)); refine wk @ePoint.eq_1 ?_; (repeat (refine Pn.mk ?_; intro N hN))))
  refine w_loopF (fun n env st => ∃ i j : Nat, n = j - i ∧ i ≤ j ∧ j ≤ cells.length ∧ (∀ x, x < i → ltB (cellAt cells x).g_At p = true) ∧ (∀ x, j ≤ x → x < cells.length → ltB (cellAt cells x).g_At p = false) ∧ env 9 = .int .i64 i ∧ env 10 = .int .i64 j ∧ st.get ⟨90000000, n0⟩ = some ⟨true, 2, [ePoint p]⟩) cells.length ⟨0, cells.length, by omega, by omega, by omega, fun x h => by omega, fun x h1 h2 => by omega, by (simp only [go_sem, ↓reduceIte, Nat.reduceEqDiff, Nat.reduceAdd, Nat.reduceSub, Nat.reduceLeDiff, reduceCtorEq]) <;> rfl, sd @Nat.zero_add, sd @ePoint.eq_1⟩ ?_
  rintro n env st ⟨i, j, rfl, hij, hj, hlo, hhi, h9, h10, hg⟩ fr
  have h0 := fr 0 (by kernel_rfl)
  have h2 := fr 2 (by kernel_rfl)
  have h4 := fr 4 (by kernel_rfl)
  have h8 := fr 8 (by kernel_rfl)
  simp only [go_sem, ↓reduceIte, Nat.reduceEqDiff, Nat.reduceAdd, Nat.reduceSub, Nat.reduceLeDiff, reduceCtorEq] at h0 h2 h4 h8
  clear fr
  by_cases hlt : (i : Int) < (j : Int)
  · have e1 : IntKind.i64.wrap ((i : Int) + j) = ((i + j : Nat) : Int) := by rw [wrap_id (by omega)]; rfl
    have hm : (i + j) / 2 < cells.length := by omega
    have hget : (cells.map eCell)[(i + j) / 2]? = some (eCell (cellAt cells ((i + j) / 2))) := get_map eCell hm
    have e2 : IntKind.i64.wrap ((IntKind.u64.wrap ((i + j : Nat) : Int)).fdiv (2 ^ min 1 IntKind.u64.bits)) = (((i + j) / 2 : Nat) : Int) := by
      have h : IntKind.u64.wrap ((i + j : Nat) : Int) = ((i + j : Nat) : Int) := by rw [IntKind.wrap_u64]; omega
      rw [h, show min 1 IntKind.u64.bits = 1 from rfl, show ((2 : Int) ^ 1) = 2 from rfl, Int.fdiv_eq_ediv_of_nonneg _ (by omega)]
      rw [wrap_id (by omega)]; omega
    have e2b : IntKind.i64.wrap ((IntKind.u64.wrap ((i + j : Nat) : Int)).fdiv (2 ^ min 1 64)) = (((i + j) / 2 : Nat) : Int) := e2
    have e3 := wrap_succ2 (k := (i + j) / 2) (by omega)
    by_cases hc : cmpP (cellAt cells ((i + j) / 2)).g_At p < 0
    · have hl : ltB (cellAt cells ((i + j) / 2)).g_At p = true := by rw [← cmpP_lt]; simpa using hc
      (repeat (first | ((repeat (revert hN; revert N; apply Pn.out)); refine wk (tw @h0 (tw @h2 (tw @h4 (tw @h8 (tw @h9 (tw @h10 (tw @hg (tw @hlt (tw @e1 (tw @e2 (tw @e2b (tw @hget (tw @hc (tw @eCell.eq_1 @ePoint.eq_1)))))))))))))) ?_; (repeat (refine Pn.mk ?_; intro N hN))) | ((try apply Or.inl); refine ⟨_, RetS.x (hat (cellAt cells ((i + j) / 2))) (sd (tw @h0 (tw @h2 (tw @h4 (tw @h8 (tw @h9 (tw @h10 (tw @hg (tw @hlt (tw @e1 (tw @e2 (tw @e2b (tw @hget (tw @hc (tw @eCell.eq_1 @ePoint.eq_1))))))))))))))), ?_⟩; refine hN _ _ ?_; clear hN N)))
      refine ⟨_, ?_, (i + j) / 2 + 1, j, rfl, by omega, hj, fun x hx => ?_, hhi, sd @e3, sd @h10, sd (tw @hg @ePoint.eq_1)⟩
      · omega
      · by_cases hxm : x = (i + j) / 2
        · subst hxm; exact hl
        · exact ltB_trans (hR x _ (by omega) hm) hl
    · have hl : ltB (cellAt cells ((i + j) / 2)).g_At p = false := by rw [← cmpP_lt]; simpa using hc
      (repeat (first | ((repeat (revert hN; revert N; apply Pn.out)); refine wk (tw @h0 (tw @h2 (tw @h4 (tw @h8 (tw @h9 (tw @h10 (tw @hg (tw @hlt (tw @e1 (tw @e2 (tw @e2b (tw @hget (tw @hc (tw @eCell.eq_1 @ePoint.eq_1)))))))))))))) ?_; (repeat (refine Pn.mk ?_; intro N hN))) | ((try apply Or.inl); refine ⟨_, RetS.x (hat (cellAt cells ((i + j) / 2))) (sd (tw @h0 (tw @h2 (tw @h4 (tw @h8 (tw @h9 (tw @h10 (tw @hg (tw @hlt (tw @e1 (tw @e2 (tw @e2b (tw @hget (tw @hc (tw @eCell.eq_1 @ePoint.eq_1))))))))))))))), ?_⟩; refine hN _ _ ?_; clear hN N)))
      refine ⟨_, ?_, i, (i + j) / 2, rfl, by omega, by omega, hlo, fun x h1 h2 => ?_, sd @h9, sd (tw @e2 @e2b), sd (tw @hg @ePoint.eq_1)⟩
      · omega
      · by_cases hxm : x = (i + j) / 2
        · subst hxm; exact hl
        · rw [Bool.eq_false_iff]
          intro hc
          have h3 := ltB_trans (hR ((i + j) / 2) x (by omega) h2) hc
          rw [hl] at h3; cases h3
  · have hij2 : i = j := by omega
    subst hij2
    have hlow : lowN cells p = i := lowN_of hj hlo fun h => hhi i (Nat.le_refl _) h
    by_cases hn : (i : Int) < (cells.length : Int)
    · have hin : i < cells.length := by omega
      have hget : (cells.map eCell)[i]? = some (eCell (cellAt cells i)) := get_map eCell hin
      have hd : decide (cmpP (cellAt cells i).g_At p = 0) = decide ((cellAt cells i).g_At = p) := by simp only [cmpP_zero]
      (repeat (first | ((repeat (revert hN; revert N; apply Pn.out)); refine wk (tw @h0 (tw @h2 (tw @h4 (tw @h8 (tw @h9 (tw @h10 (tw @hg (tw @hlt (tw @hn (tw @hget (tw @eCell.eq_1 @ePoint.eq_1))))))))))) ?_; (repeat (refine Pn.mk ?_; intro N hN))) | ((try apply Or.inl); refine ⟨_, RetS.x (hat (cellAt cells i)) (sd (tw @h0 (tw @h2 (tw @h4 (tw @h8 (tw @h9 (tw @h10 (tw @hg (tw @hlt (tw @hn (tw @hget (tw @eCell.eq_1 @ePoint.eq_1)))))))))))), ?_⟩; refine hN _ _ ?_; clear hN N)))
      refine ret2S (.inl rfl) (r1 := .int .i64 i) (r2 := .bool (decide ((cellAt cells i).g_At = p))) ?_ ?_ ?_
      · simp only [go_sem, ↓reduceIte, Nat.reduceEqDiff, Nat.reduceAdd, Nat.reduceSub, Nat.reduceLeDiff, reduceCtorEq]
      · simp only [go_sem, ↓reduceIte, Nat.reduceEqDiff, Nat.reduceAdd, Nat.reduceSub, Nat.reduceLeDiff, reduceCtorEq, hd]
      · simp only [fzS_tup, fzSRow_cons, fzSRow_nil, fzS_int, fzS_bool, Option.map_some, hlow, hin, decide_true, Bool.true_and]
    · have hin : ¬ i < cells.length := by omega
      (try ((repeat (revert hN; revert N; apply Pn.out)); refine wk (tw @h0 (tw @h2 (tw @h4 (tw @h8 (tw @h9 (tw @h10 (tw @hg (tw @hlt (tw @hn (tw @eCell.eq_1 @ePoint.eq_1)))))))))) ?_; (repeat (refine Pn.mk ?_; intro N hN))))
      refine ret2S (.inl rfl) (r1 := .int .i64 i) (r2 := .bool false) ?_ ?_ ?_
      · simp only [go_sem, ↓reduceIte, Nat.reduceEqDiff, Nat.reduceAdd, Nat.reduceSub, Nat.reduceLeDiff, reduceCtorEq]
      · simp only [go_sem, ↓reduceIte, Nat.reduceEqDiff, Nat.reduceAdd, Nat.reduceSub, Nat.reduceLeDiff, reduceCtorEq]
      · simp only [fzS_tup, fzSRow_cons, fzSRow_nil, fzS_int, fzS_bool, Option.map_some, hlow, hin, decide_false, Bool.false_and]

theorem bsearch_v (cells : List D_SignalCell) (p : D_Point) (hR : RisC cells) (h80 : cells.length ≤ 1048576) :
    RetS Tryz.prog 90 [.sl (cells.map eCell), .agg (ePoint p), .fn 121 []] (.tup [.int .i64 (lowN cells p), .bool (decide (lowN cells p < cells.length) && decide ((cellAt cells (lowN cells p)).g_At = p))]) :=
  bsearchF_v _ cells p (fun c => at1_v c p) hR h80

/-- A world's cells. -/
def eWorld (s : D_SignalSet) (temp : Int) (cells : List D_SignalCell) : List AV := [.sl (s.g_Glues.map eGlue), .sl (s.g_Tiles.map eTile), .int .i64 temp, .sl (cells.map eCell)]

theorem low_idx {cells : List D_SignalCell} {p : D_Point} (hR : RisC cells) : idxI cells p = if lowN cells p < cells.length ∧ (cellAt cells (lowN cells p)).g_At = p then (lowN cells p : Int) else -1 := by
  by_cases h : ∃ i, i < cells.length ∧ (cellAt cells i).g_At = p
  · obtain ⟨i, hi, hp⟩ := h
    have h1 : lowN cells p = i := lowN_of (by omega) (fun x hx => by rw [← hp]; exact hR x i hx hi) fun _ => by rw [hp]; exact ltB_irr
    have h2 : idxN cells p = i := by
      rw [idxN, List.findIdx_eq hi]
      refine ⟨by rw [cellAt_eq hi] at hp; simpa using hp, fun j hj => ?_⟩
      have := hR j i hj hi
      rw [hp, cellAt_eq (by omega)] at this
      simp only [decide_eq_false_iff_not]
      intro hc
      rw [hc, ltB_irr] at this
      cases this
    rw [idxI, h1, h2, if_pos hi, if_pos ⟨hi, hp⟩]
  · have h2 : ¬ idxN cells p < cells.length := by
      rw [idxN, List.findIdx_lt_length]
      rintro ⟨c, hc, he⟩
      obtain ⟨j, hj, rfl⟩ := List.getElem_of_mem hc
      exact h ⟨j, hj, by rw [cellAt_eq hj]; simpa using he⟩
    rw [idxI, if_neg h2, if_neg]
    rintro ⟨h3, h4⟩
    exact h ⟨_, h3, h4⟩

set_option maxRecDepth 100000 in
set_option maxHeartbeats 4000000 in
theorem at_v (s : D_SignalSet) (temp : Int) (cells : List D_SignalCell) (p : D_Point) (hR : RisC cells) (h80 : cells.length ≤ 1048576) :
    RetS Tryz.prog 89 [.agg (eWorld s temp cells), .agg (ePoint p)] (.int .i64 (idxI cells p)) := by
  refine RetS.body cfE rfl fun hl n0 => ?_
  clear hl
  rw [low_idx hR]
  cases hf : (decide (lowN cells p < cells.length) && decide ((cellAt cells (lowN cells p)).g_At = p))
  · (repeat (first | ((repeat (revert hN; revert N; apply Pn.out)); refine wk (tw @eWorld.eq_1 (tw @ePoint.eq_1 @hf)) ?_; (repeat (refine Pn.mk ?_; intro N hN))) | ((try apply Or.inl); refine ⟨_, RetS.x (bsearch_v cells p hR h80) (sd (tw @eWorld.eq_1 (tw @ePoint.eq_1 @hf))), ?_⟩; refine hN _ _ ?_; clear hN N)))
    exact ret1Si (b := -1) (.inl rfl) (sd @Nat.zero_add) (by rw [if_neg]; intro h; simp [h.1, h.2] at hf)
  · (repeat (first | ((repeat (revert hN; revert N; apply Pn.out)); refine wk (tw @eWorld.eq_1 (tw @ePoint.eq_1 @hf)) ?_; (repeat (refine Pn.mk ?_; intro N hN))) | ((try apply Or.inl); refine ⟨_, RetS.x (bsearch_v cells p hR h80) (sd (tw @eWorld.eq_1 (tw @ePoint.eq_1 @hf))), ?_⟩; refine hN _ _ ?_; clear hN N)))
    exact ret1Si (b := (lowN cells p : Int)) (.inl rfl) (sd @Nat.zero_add) (by rw [if_pos]; simpa using hf)


set_option maxRecDepth 100000 in
set_option maxHeartbeats 4000000 in
theorem glue_v (s : D_SignalSet) (temp : Int) (cells : List D_SignalCell) (c : D_SignalCell) (d : Int) (hd : inB d 0 3 = true) (hS : SetForm s) (h0 : 0 ≤ c.g_Tile) (h1 : c.g_Tile < s.g_Tiles.length) :
    RetS Tryz.prog 118 [.agg (eWorld s temp cells), .agg (eCell c), .int .i64 d] (.int .i64 (sideOf (tileAt s c.g_Tile) d)) := by
  refine RetS.body cfE rfl fun hl n0 => ?_
  clear hl
  have g1 : (s.g_Tiles.map eTile)[c.g_Tile.toNat]? = some (eTile (tileAt s c.g_Tile)) := get_map eTile (toNat_lt h1 h0)
  have g2 := side_get (hS _ (tile_mem h0 h1)) hd
  have q := (inB_true hd).1
  (try ((repeat (revert hN; revert N; apply Pn.out)); refine wk (tw @eWorld.eq_1 (tw @eCell.eq_1 (tw @eTile.eq_1 (tw @eInt.eq_1 (tw @h0 (tw @g1 (tw @g2 @q))))))) ?_; (repeat (refine Pn.mk ?_; intro N hN))))
  exact ret1Si (.inl rfl) (sd @Nat.zero_add) rfl

theorem oppI_mod {d : Int} (hd : inB d 0 3 = true) : (d + 2) % 4 = oppI d := by rw [oppI, if_pos hd]

set_option maxRecDepth 100000 in
set_option maxHeartbeats 4000000 in
theorem meets_v (s : D_SignalSet) (temp : Int) (cells : List D_SignalCell) (c : D_SignalCell) (d : Int) (hd : inB d 0 3 = true) (hS : SetForm s) (hSS : SetSides s) (hF : ∀ c ∈ cells, FormOk s c) (hc : FormOk s c) (hR : RisC cells) (h80 : cells.length ≤ 1048576) :
    RetS Tryz.prog 112 [.agg (eWorld s temp cells), .agg (eCell c), .int .i64 d] (.bool (meetsB s cells c d)) := by
  refine RetS.body cfE rfl fun hl n0 => ?_
  clear hl
  have hst := step_v c.g_At d hd hc.at_
  have hat := at_v s temp cells (stepP c.g_At d) hR h80
  have hgl := glue_v s temp cells c d hd hS hc.t0 hc.t1
  have q := (inB_true hd).1
  have q' := (inB_true hd).2
  have hop := opposite_v d q q'
  rw [oppI_mod hd] at hop
  have b1 := bool_get hc.on hd
  have hside := (hSS.sides _ (tile_mem hc.t0 hc.t1) d hd).1
  by_cases hk : idxN cells (stepP c.g_At d) < cells.length
  case neg =>
    have hidx : idxI cells (stepP c.g_At d) = -1 := if_neg hk
    have hm : false = meetsB s cells c d := by simp [meetsB, hk]
    (repeat (first | ((repeat (revert hN; revert N; apply Pn.out)); refine wk (tw @eWorld.eq_1 (tw @eCell.eq_1 (tw @ePoint.eq_1 @hidx))) ?_; (repeat (refine Pn.mk ?_; intro N hN))) | ((try apply Or.inl); refine ⟨_, Ret.x (hst) _, ?_⟩; refine hN _ _ ?_; clear hN N) | ((try apply Or.inl); refine ⟨_, RetS.x (hat) (sd (tw @eWorld.eq_1 (tw @eCell.eq_1 (tw @ePoint.eq_1 @hidx)))), ?_⟩; refine hN _ _ ?_; clear hN N)))
    exact ret1Sb (b := false) (.inl rfl) (sd @Nat.zero_add) hm
  have hidx : idxI cells (stepP c.g_At d) = (idxN cells (stepP c.g_At d) : Int) := if_pos hk
  have hnn : ¬ ((idxN cells (stepP c.g_At d) : Int) < 0) := by omega
  have hgk : (cells.map eCell)[idxN cells (stepP c.g_At d)]? = some (eCell cells[idxN cells (stepP c.g_At d)]) := by simp [hk]
  have fk := hF _ (List.getElem_mem hk)
  have ho := opp_in hd
  have q8 := (inB_true ho).1
  have hm : meetsB s cells c d = (decide (0 < sideOf (tileAt s c.g_Tile) d) && (decide (sideOf (tileAt s c.g_Tile) d = sideOf (tileAt s cells[idxN cells (stepP c.g_At d)].g_Tile) (oppI d)) && (bAt c.g_On d && bAt cells[idxN cells (stepP c.g_At d)].g_On (oppI d)))) := dif_pos hk
  have hgn := glue_v s temp cells cells[idxN cells (stepP c.g_At d)] (oppI d) ho hS fk.t0 fk.t1
  have b2 := bool_get fk.on ho
  generalize cells[idxN cells (stepP c.g_At d)] = n at *
  cases hon : bAt c.g_On d
  · (repeat (first | ((repeat (revert hN; revert N; apply Pn.out)); refine wk (tw @eWorld.eq_1 (tw @eCell.eq_1 (tw @eBool.eq_1 (tw @ePoint.eq_1 (tw @hidx (tw @hnn (tw @b1 (tw @q @hon)))))))) ?_; (repeat (refine Pn.mk ?_; intro N hN))) | ((try apply Or.inl); refine ⟨_, Ret.x (hst) _, ?_⟩; refine hN _ _ ?_; clear hN N) | ((try apply Or.inl); refine ⟨_, RetS.x (hat) (sd (tw @eWorld.eq_1 (tw @eCell.eq_1 (tw @eBool.eq_1 (tw @ePoint.eq_1 (tw @hidx (tw @hnn (tw @b1 (tw @q @hon))))))))), ?_⟩; refine hN _ _ ?_; clear hN N)))
    exact ret1Sb (b := false) (.inl rfl) (sd @Nat.zero_add) (by rw [hm, hon]; simp)
  by_cases hz : sideOf (tileAt s c.g_Tile) d = 0
  · (repeat (first | ((repeat (revert hN; revert N; apply Pn.out)); refine wk (tw @eWorld.eq_1 (tw @eCell.eq_1 (tw @eBool.eq_1 (tw @ePoint.eq_1 (tw @hidx (tw @hnn (tw @b1 (tw @q (tw @hon @hz))))))))) ?_; (repeat (refine Pn.mk ?_; intro N hN))) | ((try apply Or.inl); refine ⟨_, Ret.x (hst) _, ?_⟩; refine hN _ _ ?_; clear hN N) | ((try apply Or.inl); refine ⟨_, RetS.x (hat) (sd (tw @eWorld.eq_1 (tw @eCell.eq_1 (tw @eBool.eq_1 (tw @ePoint.eq_1 (tw @hidx (tw @hnn (tw @b1 (tw @q (tw @hon @hz)))))))))), ?_⟩; refine hN _ _ ?_; clear hN N) | ((try apply Or.inl); refine ⟨_, RetS.x (hgl) (sd (tw @eWorld.eq_1 (tw @eCell.eq_1 (tw @eBool.eq_1 (tw @ePoint.eq_1 (tw @hidx (tw @hnn (tw @b1 (tw @q (tw @hon @hz)))))))))), ?_⟩; refine hN _ _ ?_; clear hN N)))
    exact ret1Sb (b := false) (.inl rfl) (sd @Nat.zero_add) (by rw [hm, hz]; simp)
  have hp : 0 < sideOf (tileAt s c.g_Tile) d := by omega
  cases hno : bAt n.g_On (oppI d)
  · (repeat (first | ((repeat (revert hN; revert N; apply Pn.out)); refine wk (tw @eWorld.eq_1 (tw @eCell.eq_1 (tw @eBool.eq_1 (tw @ePoint.eq_1 (tw @hidx (tw @hnn (tw @b1 (tw @b2 (tw @q (tw @q8 (tw @hon (tw @hz (tw @hgk @hno))))))))))))) ?_; (repeat (refine Pn.mk ?_; intro N hN))) | ((try apply Or.inl); refine ⟨_, Ret.x (hst) _, ?_⟩; refine hN _ _ ?_; clear hN N) | ((try apply Or.inl); refine ⟨_, RetS.x (hat) (sd (tw @eWorld.eq_1 (tw @eCell.eq_1 (tw @eBool.eq_1 (tw @ePoint.eq_1 (tw @hidx (tw @hnn (tw @b1 (tw @b2 (tw @q (tw @q8 (tw @hon (tw @hz (tw @hgk @hno)))))))))))))), ?_⟩; refine hN _ _ ?_; clear hN N) | ((try apply Or.inl); refine ⟨_, RetS.x (hgl) (sd (tw @eWorld.eq_1 (tw @eCell.eq_1 (tw @eBool.eq_1 (tw @ePoint.eq_1 (tw @hidx (tw @hnn (tw @b1 (tw @b2 (tw @q (tw @q8 (tw @hon (tw @hz (tw @hgk @hno)))))))))))))), ?_⟩; refine hN _ _ ?_; clear hN N) | ((try apply Or.inl); refine ⟨_, Ret.x (hop) _, ?_⟩; refine hN _ _ ?_; clear hN N)))
    exact ret1Sb (b := false) (.inl rfl) (sd @Nat.zero_add) (by rw [hm, hno]; simp)
  · (repeat (first | ((repeat (revert hN; revert N; apply Pn.out)); refine wk (tw @eWorld.eq_1 (tw @eCell.eq_1 (tw @eBool.eq_1 (tw @ePoint.eq_1 (tw @hidx (tw @hnn (tw @b1 (tw @b2 (tw @q (tw @q8 (tw @hon (tw @hz (tw @hgk @hno))))))))))))) ?_; (repeat (refine Pn.mk ?_; intro N hN))) | ((try apply Or.inl); refine ⟨_, Ret.x (hst) _, ?_⟩; refine hN _ _ ?_; clear hN N) | ((try apply Or.inl); refine ⟨_, RetS.x (hat) (sd (tw @eWorld.eq_1 (tw @eCell.eq_1 (tw @eBool.eq_1 (tw @ePoint.eq_1 (tw @hidx (tw @hnn (tw @b1 (tw @b2 (tw @q (tw @q8 (tw @hon (tw @hz (tw @hgk @hno)))))))))))))), ?_⟩; refine hN _ _ ?_; clear hN N) | ((try apply Or.inl); refine ⟨_, RetS.x (hgl) (sd (tw @eWorld.eq_1 (tw @eCell.eq_1 (tw @eBool.eq_1 (tw @ePoint.eq_1 (tw @hidx (tw @hnn (tw @b1 (tw @b2 (tw @q (tw @q8 (tw @hon (tw @hz (tw @hgk @hno)))))))))))))), ?_⟩; refine hN _ _ ?_; clear hN N) | ((try apply Or.inl); refine ⟨_, RetS.x (hgn) (sd (tw @eWorld.eq_1 (tw @eCell.eq_1 (tw @eBool.eq_1 (tw @ePoint.eq_1 (tw @hidx (tw @hnn (tw @b1 (tw @b2 (tw @q (tw @q8 (tw @hon (tw @hz (tw @hgk @hno)))))))))))))), ?_⟩; refine hN _ _ ?_; clear hN N) | ((try apply Or.inl); refine ⟨_, Ret.x (hop) _, ?_⟩; refine hN _ _ ?_; clear hN N)))
    exact ret1Sb (b := decide (sideOf (tileAt s n.g_Tile) (oppI d) = sideOf (tileAt s c.g_Tile) d)) (.inl rfl) (sd @Nat.zero_add) (by rw [hm, hno, hon]; simp [hp, eq_comm])

set_option maxRecDepth 100000 in
set_option maxHeartbeats 4000000 in
theorem formOk_v (s : D_SignalSet) (temp : Int) (cells : List D_SignalCell) (c : D_SignalCell) (hn : s.g_Tiles.length ≤ 1048576) :
    RetS Tryz.prog 107 [.agg (eWorld s temp cells), .agg (eCell c)] (.bool (formB s c)) := by
  refine RetS.body cfE rfl fun hl n0 => ?_
  clear hl
  have hvp := validPoint_v c.g_At
  have hix := isIndex_v c.g_Tile s.g_Tiles.length (by omega)
  cases h1 : ptB c.g_At
  · (repeat (first | ((repeat (revert hN; revert N; apply Pn.out)); refine wk (tw @eWorld.eq_1 (tw @eCell.eq_1 (tw @ePoint.eq_1 @h1))) ?_; (repeat (refine Pn.mk ?_; intro N hN))) | ((try apply Or.inl); refine ⟨_, Ret.x (hvp) _, ?_⟩; refine hN _ _ ?_; clear hN N)))
    exact ret1Sb (b := false) (.inl rfl) (sd @Nat.zero_add) (by simp [formB, h1])
  cases h2 : inB c.g_Tile 0 ((s.g_Tiles.length : Int) - 1)
  · (repeat (first | ((repeat (revert hN; revert N; apply Pn.out)); refine wk (tw @eWorld.eq_1 (tw @eCell.eq_1 (tw @ePoint.eq_1 (tw @h1 @h2)))) ?_; (repeat (refine Pn.mk ?_; intro N hN))) | ((try apply Or.inl); refine ⟨_, Ret.x (hvp) _, ?_⟩; refine hN _ _ ?_; clear hN N) | ((try apply Or.inl); refine ⟨_, Ret.x (hix) _, ?_⟩; refine hN _ _ ?_; clear hN N)))
    exact ret1Sb (b := false) (.inl rfl) (sd @Nat.zero_add) (by simp [formB, h2])
  have i2 := inB_true h2
  have t0 := i2.1
  have g1 : (s.g_Tiles.map eTile)[c.g_Tile.toNat]? = some (eTile (tileAt s c.g_Tile)) := get_map eTile (toNat_lt (by omega) t0)
  by_cases h3 : (c.g_On.length : Int) = 4
  case neg =>
    (repeat (first | ((repeat (revert hN; revert N; apply Pn.out)); refine wk (tw @eWorld.eq_1 (tw @eCell.eq_1 (tw @ePoint.eq_1 (tw @h1 (tw @h2 @h3))))) ?_; (repeat (refine Pn.mk ?_; intro N hN))) | ((try apply Or.inl); refine ⟨_, Ret.x (hvp) _, ?_⟩; refine hN _ _ ?_; clear hN N) | ((try apply Or.inl); refine ⟨_, Ret.x (hix) _, ?_⟩; refine hN _ _ ?_; clear hN N)))
    exact ret1Sb (b := false) (.inl rfl) (sd @Nat.zero_add) (by simp [formB, show ¬ c.g_On.length = 4 by omega])
  by_cases h4 : (c.g_Bound.length : Int) = 4
  case neg =>
    (repeat (first | ((repeat (revert hN; revert N; apply Pn.out)); refine wk (tw @eWorld.eq_1 (tw @eCell.eq_1 (tw @ePoint.eq_1 (tw @h1 (tw @h2 (tw @h3 @h4)))))) ?_; (repeat (refine Pn.mk ?_; intro N hN))) | ((try apply Or.inl); refine ⟨_, Ret.x (hvp) _, ?_⟩; refine hN _ _ ?_; clear hN N) | ((try apply Or.inl); refine ⟨_, Ret.x (hix) _, ?_⟩; refine hN _ _ ?_; clear hN N)))
    exact ret1Sb (b := false) (.inl rfl) (sd @Nat.zero_add) (by simp [formB, show ¬ c.g_Bound.length = 4 by omega])
  (repeat (first | ((repeat (revert hN; revert N; apply Pn.out)); refine wk (tw @eWorld.eq_1 (tw @eCell.eq_1 (tw @eTile.eq_1 (tw @ePoint.eq_1 (tw @h1 (tw @h2 (tw @h3 (tw @h4 (tw @t0 @g1))))))))) ?_; (repeat (refine Pn.mk ?_; intro N hN))) | ((try apply Or.inl); refine ⟨_, Ret.x (hvp) _, ?_⟩; refine hN _ _ ?_; clear hN N) | ((try apply Or.inl); refine ⟨_, Ret.x (hix) _, ?_⟩; refine hN _ _ ?_; clear hN N)))
  refine ret1Sb (b := decide ((c.g_Fired.length : Int) = ((tileAt s c.g_Tile).g_Fires.length : Int))) (.inl rfl) (sd @Nat.zero_add) ?_
  simp [formB, h1, h2, show c.g_On.length = 4 by omega, show c.g_Bound.length = 4 by omega]
  norm_cast


def fTo (t : D_SignalTile) (c : D_SignalCell) (d : Int) : Nat → Bool
  | 0 => false
  | m + 1 => fTo t c d m || (decide ((fireAt t m).g_To = d) && bAt c.g_Fired m)
theorem onTo_fTo (t : D_SignalTile) (c : D_SignalCell) (d : Int) : ∀ m, onTo t c d m = (bAt t.g_On d || fTo t c d m)
  | 0 => by simp [onTo, fTo]
  | m + 1 => by rw [onTo, fTo, onTo_fTo t c d m, Bool.or_assoc]

set_option maxRecDepth 100000 in
set_option maxHeartbeats 4000000 in
theorem cellOk_v (s : D_SignalSet) (temp : Int) (cells : List D_SignalCell) (c : D_SignalCell) (hS : SetForm s) (hSS : SetSides s) (hF : ∀ c ∈ cells, FormOk s c) (hc : FormOk s c) (hR : RisC cells) (h80 : cells.length ≤ 1048576) (h6 : (tileAt s c.g_Tile).g_Fires.length ≤ 1048576) :
    RetS Tryz.prog 111 [.agg (eWorld s temp cells), .agg (eCell c)] (.bool (cellB s cells c)) := by
  refine RetS.body cfE rfl fun hl n0 => ?_
  clear hl
  have q1 := hc.t0
  have q2 := hc.tile
  have ft := hS _ (tile_mem hc.t0 hc.t1)
  have hfr : c.g_Fired.length = (tileAt s c.g_Tile).g_Fires.length := hc.fired
  have hdirF := fun {j : Nat} (hj : j < 4) (h : dirB s cells c j = false) => cellB_dir (s := s) (cells := cells) (c := c) hj h
  have hfireF := fun {j : Nat} (hj : j < (tileAt s c.g_Tile).g_Fires.length) (h : firedB s c j = false) => cellB_fired (s := s) (cells := cells) (c := c) hj h
  have hT := fun (h1 : ∀ j : Nat, j < 4 → dirB s cells c j = true) (h2 : ∀ j : Nat, j < (tileAt s c.g_Tile).g_Fires.length → firedB s c j = true) => cellB_true h1 h2
  have hdir : ∀ k : Nat, dirB s cells c k = ((bAt c.g_On k == (bAt (tileAt s c.g_Tile).g_On k || fTo (tileAt s c.g_Tile) c k (tileAt s c.g_Tile).g_Fires.length)) && boundB s cells c k) := fun k => by rw [dirB, onTo_fTo]
  have hfire : ∀ k : Nat, firedB s c k = (!bAt c.g_Fired k || bAt c.g_Bound (fireAt (tileAt s c.g_Tile) k).g_From) := fun k => rfl
  generalize tileAt s c.g_Tile = t at *
  (try ((repeat (revert hN; revert N; apply Pn.out)); refine wk (tw @eWorld.eq_1 (tw @eCell.eq_1 (tw @eTile.eq_1 (tw @q1 @q2)))) ?_; (repeat (refine Pn.mk ?_; intro N hN))))
  refine w_loopF (fun n env st => ∃ k : Nat, n = (t.g_Fires.length) - k ∧ k ≤ (t.g_Fires.length) ∧ env 22 = .int .i64 (k : Int) ∧ (∀ j : Nat, j < k → firedB s c j = true) ∧ st.get ⟨111000000, n0⟩ = some ⟨true, 4, [eWorld s temp cells]⟩ ∧ st.get ⟨111000001, n0⟩ = some ⟨true, 6, [eCell c]⟩ ∧ st.get ⟨111001007, n0 + 1⟩ = some ⟨true, 4, [eTile t]⟩) (t.g_Fires.length) ⟨0, by omega, by omega, by (try simp only [go_sem, ↓reduceIte, Nat.reduceEqDiff, Nat.reduceAdd, Nat.reduceSub, Nat.reduceLeDiff, reduceCtorEq, eWorld, eCell, eTile]); try rfl, fun _ h => absurd h (Nat.not_lt_zero _), by (try simp only [go_sem, ↓reduceIte, Nat.reduceEqDiff, Nat.reduceAdd, Nat.reduceSub, Nat.reduceLeDiff, reduceCtorEq, eWorld, eCell, eTile]); try rfl, by (try simp only [go_sem, ↓reduceIte, Nat.reduceEqDiff, Nat.reduceAdd, Nat.reduceSub, Nat.reduceLeDiff, reduceCtorEq, eWorld, eCell, eTile]); try rfl, by (try simp only [go_sem, ↓reduceIte, Nat.reduceEqDiff, Nat.reduceAdd, Nat.reduceSub, Nat.reduceLeDiff, reduceCtorEq, eWorld, eCell, eTile]); try rfl⟩ ?_
  rintro n_a env_a st_a ⟨k, rfl, ale, a22, aA0, ag0, ag1, ag2⟩ afr
  have a2 := afr 2 (by kernel_rfl); have a3 := afr 3 (by kernel_rfl); have a5 := afr 5 (by kernel_rfl); have a20 := afr 20 (by kernel_rfl); have a21 := afr 21 (by kernel_rfl)
  simp only [go_sem, ↓reduceIte, Nat.reduceEqDiff, Nat.reduceAdd, Nat.reduceSub, Nat.reduceLeDiff, reduceCtorEq, eWorld, eCell, eTile] at a2 a3 a5 a20 a21
  clear afr
  by_cases hk : (k : Int) < (t.g_Fires.length : Int)
  · have nexta : ∀ {e : Env} {gg : Rows}, (e 22 = .int .i64 (IntKind.i64.wrap ((k : Int) + 1))) → (firedB s c k = true) → (gg ⟨111000000, n0⟩ = some ⟨true, 4, [eWorld s temp cells]⟩) → (gg ⟨111000001, n0⟩ = some ⟨true, 6, [eCell c]⟩) → (gg ⟨111001007, n0 + 1⟩ = some ⟨true, 4, [eTile t]⟩) → ∃ m0, m0 < (t.g_Fires.length) - k ∧ ∃ k : Nat, m0 = (t.g_Fires.length) - k ∧ k ≤ (t.g_Fires.length) ∧ e 22 = .int .i64 (k : Int) ∧ (∀ j : Nat, j < k → firedB s c j = true) ∧ gg ⟨111000000, n0⟩ = some ⟨true, 4, [eWorld s temp cells]⟩ ∧ gg ⟨111000001, n0⟩ = some ⟨true, 6, [eCell c]⟩ ∧ gg ⟨111001007, n0 + 1⟩ = some ⟨true, 4, [eTile t]⟩ := fun x1 x2 x3 x4 x5 => ⟨_, by omega, k + 1, rfl, by omega, (by rw [x1, wrap_succ2 (by omega)]), (all_succ aA0 x2), x3, x4, x5⟩
    have hkn : k < t.g_Fires.length := by omega
    have g1 : (t.g_Fires.map eFire)[k]? = some (eFire (fireAt t k)) := get_map eFire hkn
    have g2 : (c.g_Fired.map eBool)[k]? = some (eBool (bAt c.g_Fired k)) := get_map eBool (d := false) (by omega)
    have hfr2 := (ft.fires (fireAt t k) (by
        unfold fireAt
        rw [List.getD_eq_getElem?_getD, List.getElem?_eq_getElem hkn]
        exact List.getElem_mem hkn)).1
    have q9 := (inB_true hfr2).1
    have g3 : (c.g_Bound.map eBool)[(fireAt t k).g_From.toNat]? = some (eBool (bAt c.g_Bound (fireAt t k).g_From)) := bool_get hc.bound hfr2
    cases hb : bAt c.g_Fired k
    · (try ((repeat (revert hN; revert N; apply Pn.out)); refine wk (tw @a22 (tw @ag0 (tw @ag1 (tw @ag2 (tw @a2 (tw @a3 (tw @a5 (tw @a20 (tw @a21 (tw @hk (tw @g1 (tw @g2 (tw @hb (tw @eCell.eq_1 (tw @eFire.eq_1 @eBool.eq_1))))))))))))))) ?_; (repeat (refine Pn.mk ?_; intro N hN))))
      refine nexta ?_ (by rw [hfire, hb]; rfl) ?_ ?_ ?_
      all_goals simp only [go_sem, ↓reduceIte, Nat.reduceEqDiff, Nat.reduceAdd, Nat.reduceSub, Nat.reduceLeDiff, reduceCtorEq, a22, ag0, ag1, ag2, a2, a3, a5, a20, a21, eWorld, eCell, eTile]
    cases hbd : bAt c.g_Bound (fireAt t k).g_From
    · (try ((repeat (revert hN; revert N; apply Pn.out)); refine wk (tw @a22 (tw @ag0 (tw @ag1 (tw @ag2 (tw @a2 (tw @a3 (tw @a5 (tw @a20 (tw @a21 (tw @hk (tw @g1 (tw @g2 (tw @g3 (tw @hb (tw @hbd (tw @q9 (tw @eCell.eq_1 (tw @eFire.eq_1 @eBool.eq_1)))))))))))))))))) ?_; (repeat (refine Pn.mk ?_; intro N hN))))
      exact ret1Sb (b := false) (.inl rfl) (sd @Nat.zero_add) (hfireF hkn (by rw [hfire, hb, hbd]; rfl)).symm
    · (try ((repeat (revert hN; revert N; apply Pn.out)); refine wk (tw @a22 (tw @ag0 (tw @ag1 (tw @ag2 (tw @a2 (tw @a3 (tw @a5 (tw @a20 (tw @a21 (tw @hk (tw @g1 (tw @g2 (tw @g3 (tw @hb (tw @hbd (tw @q9 (tw @eCell.eq_1 (tw @eFire.eq_1 @eBool.eq_1)))))))))))))))))) ?_; (repeat (refine Pn.mk ?_; intro N hN))))
      refine nexta ?_ (by rw [hfire, hb, hbd]; rfl) ?_ ?_ ?_
      all_goals simp only [go_sem, ↓reduceIte, Nat.reduceEqDiff, Nat.reduceAdd, Nat.reduceSub, Nat.reduceLeDiff, reduceCtorEq, a22, ag0, ag1, ag2, a2, a3, a5, a20, a21, eWorld, eCell, eTile]
  have hkf : k = t.g_Fires.length := by omega
  subst hkf
  (try ((repeat (revert hN; revert N; apply Pn.out)); refine wk (tw @a22 (tw @ag0 (tw @ag1 (tw @ag2 (tw @a2 (tw @a3 (tw @a5 (tw @a20 (tw @a21 @hk))))))))) ?_; (repeat (refine Pn.mk ?_; intro N hN))))
  refine w_loopF (fun n env st => ∃ k : Nat, n = (4) - k ∧ k ≤ (4) ∧ env 42 = .int .i64 (k : Int) ∧ (∀ j : Nat, j < k → dirB s cells c j = true) ∧ st.get ⟨111000000, n0⟩ = some ⟨true, 4, [eWorld s temp cells]⟩ ∧ st.get ⟨111000001, n0⟩ = some ⟨true, 6, [eCell c]⟩ ∧ st.get ⟨111001007, n0 + 1⟩ = some ⟨true, 4, [eTile t]⟩) (4) ⟨0, by omega, by omega, by (try simp only [go_sem, ↓reduceIte, Nat.reduceEqDiff, Nat.reduceAdd, Nat.reduceSub, Nat.reduceLeDiff, reduceCtorEq, a22, ag0, ag1, ag2, a2, a3, a5, a20, a21]); try rfl, fun _ h => absurd h (Nat.not_lt_zero _), by (try simp only [go_sem, ↓reduceIte, Nat.reduceEqDiff, Nat.reduceAdd, Nat.reduceSub, Nat.reduceLeDiff, reduceCtorEq, a22, ag0, ag1, ag2, a2, a3, a5, a20, a21]); try rfl, by (try simp only [go_sem, ↓reduceIte, Nat.reduceEqDiff, Nat.reduceAdd, Nat.reduceSub, Nat.reduceLeDiff, reduceCtorEq, a22, ag0, ag1, ag2, a2, a3, a5, a20, a21]); try rfl, by (try simp only [go_sem, ↓reduceIte, Nat.reduceEqDiff, Nat.reduceAdd, Nat.reduceSub, Nat.reduceLeDiff, reduceCtorEq, a22, ag0, ag1, ag2, a2, a3, a5, a20, a21]); try rfl⟩ ?_
  rintro n_b env_b st_b ⟨k, rfl, ble, b42, bA0, bg0, bg1, bg2⟩ bfr
  have b2 := bfr 2 (by kernel_rfl); have b3 := bfr 3 (by kernel_rfl); have b5 := bfr 5 (by kernel_rfl)
  simp only [go_sem, ↓reduceIte, Nat.reduceEqDiff, Nat.reduceAdd, Nat.reduceSub, Nat.reduceLeDiff, reduceCtorEq, a22, ag0, ag1, ag2, a2, a3, a5, a20, a21] at b2 b3 b5
  clear bfr
  by_cases hkd : (k : Int) < 4
  · have nextb : ∀ {e : Env} {gg : Rows}, (e 42 = .int .i64 (IntKind.i64.wrap ((k : Int) + 1))) → (dirB s cells c k = true) → (gg ⟨111000000, n0⟩ = some ⟨true, 4, [eWorld s temp cells]⟩) → (gg ⟨111000001, n0⟩ = some ⟨true, 6, [eCell c]⟩) → (gg ⟨111001007, n0 + 1⟩ = some ⟨true, 4, [eTile t]⟩) → ∃ m0, m0 < (4) - k ∧ ∃ k : Nat, m0 = (4) - k ∧ k ≤ (4) ∧ e 42 = .int .i64 (k : Int) ∧ (∀ j : Nat, j < k → dirB s cells c j = true) ∧ gg ⟨111000000, n0⟩ = some ⟨true, 4, [eWorld s temp cells]⟩ ∧ gg ⟨111000001, n0⟩ = some ⟨true, 6, [eCell c]⟩ ∧ gg ⟨111001007, n0 + 1⟩ = some ⟨true, 4, [eTile t]⟩ := fun x1 x2 x3 x4 x5 => ⟨_, by omega, k + 1, rfl, by omega, (by rw [x1, wrap_succ2 (by omega)]), (all_succ bA0 x2), x3, x4, x5⟩
    have hd : inB (k : Int) 0 3 = true := inB_of (by omega)
    (try ((repeat (revert hN; revert N; apply Pn.out)); refine wk (tw @b42 (tw @bg0 (tw @bg1 (tw @bg2 (tw @b2 (tw @b3 (tw @b5 (tw @hkd @eTile.eq_1)))))))) ?_; (repeat (refine Pn.mk ?_; intro N hN))))
    refine w_loopF (fun n env st => ∃ m : Nat, n = (t.g_Fires.length) - m ∧ m ≤ (t.g_Fires.length) ∧ env 48 = .int .i64 (m : Int) ∧ env 9 = .bool (fTo t c k m) ∧ st.get ⟨111000000, n0⟩ = some ⟨true, 4, [eWorld s temp cells]⟩ ∧ st.get ⟨111000001, n0⟩ = some ⟨true, 6, [eCell c]⟩ ∧ st.get ⟨111001007, n0 + 1⟩ = some ⟨true, 4, [eTile t]⟩) (t.g_Fires.length) ⟨0, by omega, by omega, by (try simp only [go_sem, ↓reduceIte, Nat.reduceEqDiff, Nat.reduceAdd, Nat.reduceSub, Nat.reduceLeDiff, reduceCtorEq, b42, bg0, bg1, bg2, b2, b3, b5, eTile]); try rfl, by (try simp only [go_sem, ↓reduceIte, Nat.reduceEqDiff, Nat.reduceAdd, Nat.reduceSub, Nat.reduceLeDiff, reduceCtorEq, b42, bg0, bg1, bg2, b2, b3, b5, eTile]); try rfl, by (try simp only [go_sem, ↓reduceIte, Nat.reduceEqDiff, Nat.reduceAdd, Nat.reduceSub, Nat.reduceLeDiff, reduceCtorEq, b42, bg0, bg1, bg2, b2, b3, b5, eTile]); try rfl, by (try simp only [go_sem, ↓reduceIte, Nat.reduceEqDiff, Nat.reduceAdd, Nat.reduceSub, Nat.reduceLeDiff, reduceCtorEq, b42, bg0, bg1, bg2, b2, b3, b5, eTile]); try rfl, by (try simp only [go_sem, ↓reduceIte, Nat.reduceEqDiff, Nat.reduceAdd, Nat.reduceSub, Nat.reduceLeDiff, reduceCtorEq, b42, bg0, bg1, bg2, b2, b3, b5, eTile]); try rfl⟩ ?_
    rintro n_c env_c st_c ⟨m, rfl, cle, c48, c9, cg0, cg1, cg2⟩ cfr
    have c2 := cfr 2 (by kernel_rfl); have c3 := cfr 3 (by kernel_rfl); have c5 := cfr 5 (by kernel_rfl); have c8 := cfr 8 (by kernel_rfl); have c42 := cfr 42 (by kernel_rfl); have c46 := cfr 46 (by kernel_rfl); have c47 := cfr 47 (by kernel_rfl)
    simp only [go_sem, ↓reduceIte, Nat.reduceEqDiff, Nat.reduceAdd, Nat.reduceSub, Nat.reduceLeDiff, reduceCtorEq, b42, bg0, bg1, bg2, b2, b3, b5, eTile] at c2 c3 c5 c8 c42 c46 c47
    clear cfr
    by_cases hm : (m : Int) < (t.g_Fires.length : Int)
    · have nextc : ∀ {e : Env} {gg : Rows}, (e 48 = .int .i64 (IntKind.i64.wrap ((m : Int) + 1))) → (e 9 = .bool (fTo t c k (m + 1))) → (gg ⟨111000000, n0⟩ = some ⟨true, 4, [eWorld s temp cells]⟩) → (gg ⟨111000001, n0⟩ = some ⟨true, 6, [eCell c]⟩) → (gg ⟨111001007, n0 + 1⟩ = some ⟨true, 4, [eTile t]⟩) → ∃ m0, m0 < (t.g_Fires.length) - m ∧ ∃ m : Nat, m0 = (t.g_Fires.length) - m ∧ m ≤ (t.g_Fires.length) ∧ e 48 = .int .i64 (m : Int) ∧ e 9 = .bool (fTo t c k m) ∧ gg ⟨111000000, n0⟩ = some ⟨true, 4, [eWorld s temp cells]⟩ ∧ gg ⟨111000001, n0⟩ = some ⟨true, 6, [eCell c]⟩ ∧ gg ⟨111001007, n0 + 1⟩ = some ⟨true, 4, [eTile t]⟩ := fun x1 x2 x3 x4 x5 => ⟨_, by omega, m + 1, rfl, by omega, (by rw [x1, wrap_succ2 (by omega)]), x2, x3, x4, x5⟩
      have hmn : m < t.g_Fires.length := by omega
      have g1 : (t.g_Fires.map eFire)[m]? = some (eFire (fireAt t m)) := get_map eFire hmn
      have g2 : (c.g_Fired.map eBool)[m]? = some (eBool (bAt c.g_Fired m)) := get_map eBool (d := false) (by omega)
      cases hon : fTo t c k m
      · by_cases hto : (fireAt t m).g_To = k
        · (try ((repeat (revert hN; revert N; apply Pn.out)); refine wk (tw @c48 (tw @c9 (tw @cg0 (tw @cg1 (tw @cg2 (tw @c2 (tw @c3 (tw @c5 (tw @c8 (tw @c42 (tw @c46 (tw @c47 (tw @hm (tw @g1 (tw @g2 (tw @hon (tw @hto (tw @eCell.eq_1 (tw @eFire.eq_1 @eBool.eq_1))))))))))))))))))) ?_; (repeat (refine Pn.mk ?_; intro N hN))))
          refine nextc ?_ ?_ ?_ ?_ ?_
          all_goals simp only [go_sem, ↓reduceIte, Nat.reduceEqDiff, Nat.reduceAdd, Nat.reduceSub, Nat.reduceLeDiff, reduceCtorEq, c48, c9, cg0, cg1, cg2, c2, c3, c5, c8, c42, c46, c47, fTo, hon, hto, eCell]
        · (try ((repeat (revert hN; revert N; apply Pn.out)); refine wk (tw @c48 (tw @c9 (tw @cg0 (tw @cg1 (tw @cg2 (tw @c2 (tw @c3 (tw @c5 (tw @c8 (tw @c42 (tw @c46 (tw @c47 (tw @hm (tw @g1 (tw @g2 (tw @hon (tw @hto (tw @eCell.eq_1 (tw @eFire.eq_1 @eBool.eq_1))))))))))))))))))) ?_; (repeat (refine Pn.mk ?_; intro N hN))))
          refine nextc ?_ ?_ ?_ ?_ ?_
          all_goals simp only [go_sem, ↓reduceIte, Nat.reduceEqDiff, Nat.reduceAdd, Nat.reduceSub, Nat.reduceLeDiff, reduceCtorEq, c48, c9, cg0, cg1, cg2, c2, c3, c5, c8, c42, c46, c47, fTo, hon, hto, eCell, Bool.false_and]
      · (try ((repeat (revert hN; revert N; apply Pn.out)); refine wk (tw @c48 (tw @c9 (tw @cg0 (tw @cg1 (tw @cg2 (tw @c2 (tw @c3 (tw @c5 (tw @c8 (tw @c42 (tw @c46 (tw @c47 (tw @hm (tw @g1 (tw @g2 (tw @hon (tw @eCell.eq_1 (tw @eFire.eq_1 @eBool.eq_1)))))))))))))))))) ?_; (repeat (refine Pn.mk ?_; intro N hN))))
        refine nextc ?_ ?_ ?_ ?_ ?_
        all_goals simp only [go_sem, ↓reduceIte, Nat.reduceEqDiff, Nat.reduceAdd, Nat.reduceSub, Nat.reduceLeDiff, reduceCtorEq, c48, c9, cg0, cg1, cg2, c2, c3, c5, c8, c42, c46, c47, fTo, hon, eCell, Bool.true_or]
    have hmf : m = t.g_Fires.length := by omega
    subst hmf
    have b1 : (c.g_On.map eBool)[k]? = some (eBool (bAt c.g_On k)) := bool_get hc.on hd
    have b2 : (t.g_On.map eBool)[k]? = some (eBool (bAt t.g_On k)) := bool_get ft.on hd
    have b3 : (c.g_Bound.map eBool)[k]? = some (eBool (bAt c.g_Bound k)) := bool_get hc.bound hd
    have hdk := hdir k
    obtain ⟨x, hx⟩ : ∃ x, x = fTo t c k t.g_Fires.length := ⟨_, rfl⟩
    rw [← hx] at hdk c9
    obtain ⟨y, hy⟩ : ∃ y, y = bAt t.g_On k := ⟨_, rfl⟩
    rw [← hy] at hdk b2
    clear hx hy
    cases he : (bAt c.g_On k == (y || x))
    · cases y
      · simp only [Bool.false_or] at he
        (try ((repeat (revert hN; revert N; apply Pn.out)); refine wk (tw @c48 (tw @c9 (tw @cg0 (tw @cg1 (tw @cg2 (tw @c2 (tw @c3 (tw @c5 (tw @c8 (tw @c42 (tw @c46 (tw @c47 (tw @hm (tw @b1 (tw @b2 (tw @he (tw @eCell.eq_1 (tw @eTile.eq_1 @eBool.eq_1)))))))))))))))))) ?_; (repeat (refine Pn.mk ?_; intro N hN))))
        exact ret1Sb (b := false) (.inl rfl) (sd @Nat.zero_add) (hdirF (j := k) (by omega) (by rw [hdk]; simp [he])).symm
      · simp only [Bool.true_or] at he
        (try ((repeat (revert hN; revert N; apply Pn.out)); refine wk (tw @c48 (tw @c9 (tw @cg0 (tw @cg1 (tw @cg2 (tw @c2 (tw @c3 (tw @c5 (tw @c8 (tw @c42 (tw @c46 (tw @c47 (tw @hm (tw @b1 (tw @b2 (tw @he (tw @eCell.eq_1 (tw @eTile.eq_1 @eBool.eq_1)))))))))))))))))) ?_; (repeat (refine Pn.mk ?_; intro N hN))))
        exact ret1Sb (b := false) (.inl rfl) (sd @Nat.zero_add) (hdirF (j := k) (by omega) (by rw [hdk]; simp [he])).symm
    rw [he, Bool.true_and] at hdk
    have hb : boundB s cells c k = (!bAt c.g_Bound k || (meetsB s cells c k && bAt (nbr cells c k).g_Bound (oppI k))) := rfl
    rw [hb] at hdk
    have hst := step_v c.g_At k hd hc.at_
    have hat := at_v s temp cells (stepP c.g_At k) hR h80
    have hme := meets_v s temp cells c k hd hS hSS hF hc hR h80
    have hop := opposite_v k (inB_true hd).1 (inB_true hd).2
    rw [oppI_mod hd] at hop
    cases hbd : bAt c.g_Bound k
    · rw [hbd] at hdk
      cases y
      · simp only [Bool.false_or] at he
        (try ((repeat (revert hN; revert N; apply Pn.out)); refine wk (tw @c48 (tw @c9 (tw @cg0 (tw @cg1 (tw @cg2 (tw @c2 (tw @c3 (tw @c5 (tw @c8 (tw @c42 (tw @c46 (tw @c47 (tw @hm (tw @b1 (tw @b2 (tw @b3 (tw @he (tw @hbd (tw @eCell.eq_1 (tw @eTile.eq_1 @eBool.eq_1)))))))))))))))))))) ?_; (repeat (refine Pn.mk ?_; intro N hN))))
        refine nextb ?_ (hdk) ?_ ?_ ?_
        all_goals simp only [go_sem, ↓reduceIte, Nat.reduceEqDiff, Nat.reduceAdd, Nat.reduceSub, Nat.reduceLeDiff, reduceCtorEq, c48, c9, cg0, cg1, cg2, c2, c3, c5, c8, c42, c46, c47, eCell, eTile]
      · simp only [Bool.true_or] at he
        (try ((repeat (revert hN; revert N; apply Pn.out)); refine wk (tw @c48 (tw @c9 (tw @cg0 (tw @cg1 (tw @cg2 (tw @c2 (tw @c3 (tw @c5 (tw @c8 (tw @c42 (tw @c46 (tw @c47 (tw @hm (tw @b1 (tw @b2 (tw @b3 (tw @he (tw @hbd (tw @eCell.eq_1 (tw @eTile.eq_1 @eBool.eq_1)))))))))))))))))))) ?_; (repeat (refine Pn.mk ?_; intro N hN))))
        refine nextb ?_ (hdk) ?_ ?_ ?_
        all_goals simp only [go_sem, ↓reduceIte, Nat.reduceEqDiff, Nat.reduceAdd, Nat.reduceSub, Nat.reduceLeDiff, reduceCtorEq, c48, c9, cg0, cg1, cg2, c2, c3, c5, c8, c42, c46, c47, eCell, eTile]
    cases hmb : meetsB s cells c k
    · rw [hbd, hmb] at hdk
      cases y
      · simp only [Bool.false_or] at he
        (repeat (first | ((repeat (revert hN; revert N; apply Pn.out)); refine wk (tw @c48 (tw @c9 (tw @cg0 (tw @cg1 (tw @cg2 (tw @c2 (tw @c3 (tw @c5 (tw @c8 (tw @c42 (tw @c46 (tw @c47 (tw @hm (tw @b1 (tw @b2 (tw @b3 (tw @he (tw @hbd (tw @hmb (tw @eWorld.eq_1 (tw @eCell.eq_1 (tw @eTile.eq_1 @eBool.eq_1)))))))))))))))))))))) ?_; (repeat (refine Pn.mk ?_; intro N hN))) | ((try apply Or.inl); refine ⟨_, RetS.x (hme) (sd (tw @c48 (tw @c9 (tw @cg0 (tw @cg1 (tw @cg2 (tw @c2 (tw @c3 (tw @c5 (tw @c8 (tw @c42 (tw @c46 (tw @c47 (tw @hm (tw @b1 (tw @b2 (tw @b3 (tw @he (tw @hbd (tw @hmb (tw @eWorld.eq_1 (tw @eCell.eq_1 (tw @eTile.eq_1 @eBool.eq_1))))))))))))))))))))))), ?_⟩; refine hN _ _ ?_; clear hN N)))
        exact ret1Sb (b := false) (.inl rfl) (sd @Nat.zero_add) (hdirF (j := k) (by omega) hdk).symm
      · simp only [Bool.true_or] at he
        (repeat (first | ((repeat (revert hN; revert N; apply Pn.out)); refine wk (tw @c48 (tw @c9 (tw @cg0 (tw @cg1 (tw @cg2 (tw @c2 (tw @c3 (tw @c5 (tw @c8 (tw @c42 (tw @c46 (tw @c47 (tw @hm (tw @b1 (tw @b2 (tw @b3 (tw @he (tw @hbd (tw @hmb (tw @eWorld.eq_1 (tw @eCell.eq_1 (tw @eTile.eq_1 @eBool.eq_1)))))))))))))))))))))) ?_; (repeat (refine Pn.mk ?_; intro N hN))) | ((try apply Or.inl); refine ⟨_, RetS.x (hme) (sd (tw @c48 (tw @c9 (tw @cg0 (tw @cg1 (tw @cg2 (tw @c2 (tw @c3 (tw @c5 (tw @c8 (tw @c42 (tw @c46 (tw @c47 (tw @hm (tw @b1 (tw @b2 (tw @b3 (tw @he (tw @hbd (tw @hmb (tw @eWorld.eq_1 (tw @eCell.eq_1 (tw @eTile.eq_1 @eBool.eq_1))))))))))))))))))))))), ?_⟩; refine hN _ _ ?_; clear hN N)))
        exact ret1Sb (b := false) (.inl rfl) (sd @Nat.zero_add) (hdirF (j := k) (by omega) hdk).symm
    have hix := meets_lt hmb
    have hidx : idxI cells (stepP c.g_At k) = (idxN cells (stepP c.g_At k) : Int) := if_pos hix
    have hgk : (cells.map eCell)[idxN cells (stepP c.g_At k)]? = some (eCell (nbr cells c k)) := get_map eCell hix
    have ho := opp_in hd
    have q8 := (inB_true ho).1
    have hmem : nbr cells c k ∈ cells := by
      unfold nbr
      rw [List.getD_eq_getElem?_getD, List.getElem?_eq_getElem hix]
      exact List.getElem_mem hix
    have b4 : ((nbr cells c k).g_Bound.map eBool)[(oppI k).toNat]? = some (eBool (bAt (nbr cells c k).g_Bound (oppI k))) := bool_get (hF _ hmem).bound ho
    rw [hbd, hmb] at hdk
    cases hob : bAt (nbr cells c k).g_Bound (oppI k)
    · rw [hob] at hdk
      cases y
      · simp only [Bool.false_or] at he
        (repeat (first | ((repeat (revert hN; revert N; apply Pn.out)); refine wk (tw @c48 (tw @c9 (tw @cg0 (tw @cg1 (tw @cg2 (tw @c2 (tw @c3 (tw @c5 (tw @c8 (tw @c42 (tw @c46 (tw @c47 (tw @hm (tw @b1 (tw @b2 (tw @b3 (tw @b4 (tw @he (tw @hbd (tw @hmb (tw @hidx (tw @hgk (tw @hob (tw @q8 (tw @eWorld.eq_1 (tw @eCell.eq_1 (tw @eTile.eq_1 (tw @eBool.eq_1 @ePoint.eq_1)))))))))))))))))))))))))))) ?_; (repeat (refine Pn.mk ?_; intro N hN))) | ((try apply Or.inl); refine ⟨_, RetS.x (hme) (sd (tw @c48 (tw @c9 (tw @cg0 (tw @cg1 (tw @cg2 (tw @c2 (tw @c3 (tw @c5 (tw @c8 (tw @c42 (tw @c46 (tw @c47 (tw @hm (tw @b1 (tw @b2 (tw @b3 (tw @b4 (tw @he (tw @hbd (tw @hmb (tw @hidx (tw @hgk (tw @hob (tw @q8 (tw @eWorld.eq_1 (tw @eCell.eq_1 (tw @eTile.eq_1 (tw @eBool.eq_1 @ePoint.eq_1))))))))))))))))))))))))))))), ?_⟩; refine hN _ _ ?_; clear hN N) | ((try apply Or.inl); refine ⟨_, RetS.x (hat) (sd (tw @c48 (tw @c9 (tw @cg0 (tw @cg1 (tw @cg2 (tw @c2 (tw @c3 (tw @c5 (tw @c8 (tw @c42 (tw @c46 (tw @c47 (tw @hm (tw @b1 (tw @b2 (tw @b3 (tw @b4 (tw @he (tw @hbd (tw @hmb (tw @hidx (tw @hgk (tw @hob (tw @q8 (tw @eWorld.eq_1 (tw @eCell.eq_1 (tw @eTile.eq_1 (tw @eBool.eq_1 @ePoint.eq_1))))))))))))))))))))))))))))), ?_⟩; refine hN _ _ ?_; clear hN N) | ((try apply Or.inl); refine ⟨_, Ret.x (hst) _, ?_⟩; refine hN _ _ ?_; clear hN N) | ((try apply Or.inl); refine ⟨_, Ret.x (hop) _, ?_⟩; refine hN _ _ ?_; clear hN N)))
        exact ret1Sb (b := false) (.inl rfl) (sd @Nat.zero_add) (hdirF (j := k) (by omega) hdk).symm
      · simp only [Bool.true_or] at he
        (repeat (first | ((repeat (revert hN; revert N; apply Pn.out)); refine wk (tw @c48 (tw @c9 (tw @cg0 (tw @cg1 (tw @cg2 (tw @c2 (tw @c3 (tw @c5 (tw @c8 (tw @c42 (tw @c46 (tw @c47 (tw @hm (tw @b1 (tw @b2 (tw @b3 (tw @b4 (tw @he (tw @hbd (tw @hmb (tw @hidx (tw @hgk (tw @hob (tw @q8 (tw @eWorld.eq_1 (tw @eCell.eq_1 (tw @eTile.eq_1 (tw @eBool.eq_1 @ePoint.eq_1)))))))))))))))))))))))))))) ?_; (repeat (refine Pn.mk ?_; intro N hN))) | ((try apply Or.inl); refine ⟨_, RetS.x (hme) (sd (tw @c48 (tw @c9 (tw @cg0 (tw @cg1 (tw @cg2 (tw @c2 (tw @c3 (tw @c5 (tw @c8 (tw @c42 (tw @c46 (tw @c47 (tw @hm (tw @b1 (tw @b2 (tw @b3 (tw @b4 (tw @he (tw @hbd (tw @hmb (tw @hidx (tw @hgk (tw @hob (tw @q8 (tw @eWorld.eq_1 (tw @eCell.eq_1 (tw @eTile.eq_1 (tw @eBool.eq_1 @ePoint.eq_1))))))))))))))))))))))))))))), ?_⟩; refine hN _ _ ?_; clear hN N) | ((try apply Or.inl); refine ⟨_, RetS.x (hat) (sd (tw @c48 (tw @c9 (tw @cg0 (tw @cg1 (tw @cg2 (tw @c2 (tw @c3 (tw @c5 (tw @c8 (tw @c42 (tw @c46 (tw @c47 (tw @hm (tw @b1 (tw @b2 (tw @b3 (tw @b4 (tw @he (tw @hbd (tw @hmb (tw @hidx (tw @hgk (tw @hob (tw @q8 (tw @eWorld.eq_1 (tw @eCell.eq_1 (tw @eTile.eq_1 (tw @eBool.eq_1 @ePoint.eq_1))))))))))))))))))))))))))))), ?_⟩; refine hN _ _ ?_; clear hN N) | ((try apply Or.inl); refine ⟨_, Ret.x (hst) _, ?_⟩; refine hN _ _ ?_; clear hN N) | ((try apply Or.inl); refine ⟨_, Ret.x (hop) _, ?_⟩; refine hN _ _ ?_; clear hN N)))
        exact ret1Sb (b := false) (.inl rfl) (sd @Nat.zero_add) (hdirF (j := k) (by omega) hdk).symm
    · rw [hob] at hdk
      cases y
      · simp only [Bool.false_or] at he
        (repeat (first | ((repeat (revert hN; revert N; apply Pn.out)); refine wk (tw @c48 (tw @c9 (tw @cg0 (tw @cg1 (tw @cg2 (tw @c2 (tw @c3 (tw @c5 (tw @c8 (tw @c42 (tw @c46 (tw @c47 (tw @hm (tw @b1 (tw @b2 (tw @b3 (tw @b4 (tw @he (tw @hbd (tw @hmb (tw @hidx (tw @hgk (tw @hob (tw @q8 (tw @eWorld.eq_1 (tw @eCell.eq_1 (tw @eTile.eq_1 (tw @eBool.eq_1 @ePoint.eq_1)))))))))))))))))))))))))))) ?_; (repeat (refine Pn.mk ?_; intro N hN))) | ((try apply Or.inl); refine ⟨_, RetS.x (hme) (sd (tw @c48 (tw @c9 (tw @cg0 (tw @cg1 (tw @cg2 (tw @c2 (tw @c3 (tw @c5 (tw @c8 (tw @c42 (tw @c46 (tw @c47 (tw @hm (tw @b1 (tw @b2 (tw @b3 (tw @b4 (tw @he (tw @hbd (tw @hmb (tw @hidx (tw @hgk (tw @hob (tw @q8 (tw @eWorld.eq_1 (tw @eCell.eq_1 (tw @eTile.eq_1 (tw @eBool.eq_1 @ePoint.eq_1))))))))))))))))))))))))))))), ?_⟩; refine hN _ _ ?_; clear hN N) | ((try apply Or.inl); refine ⟨_, RetS.x (hat) (sd (tw @c48 (tw @c9 (tw @cg0 (tw @cg1 (tw @cg2 (tw @c2 (tw @c3 (tw @c5 (tw @c8 (tw @c42 (tw @c46 (tw @c47 (tw @hm (tw @b1 (tw @b2 (tw @b3 (tw @b4 (tw @he (tw @hbd (tw @hmb (tw @hidx (tw @hgk (tw @hob (tw @q8 (tw @eWorld.eq_1 (tw @eCell.eq_1 (tw @eTile.eq_1 (tw @eBool.eq_1 @ePoint.eq_1))))))))))))))))))))))))))))), ?_⟩; refine hN _ _ ?_; clear hN N) | ((try apply Or.inl); refine ⟨_, Ret.x (hst) _, ?_⟩; refine hN _ _ ?_; clear hN N) | ((try apply Or.inl); refine ⟨_, Ret.x (hop) _, ?_⟩; refine hN _ _ ?_; clear hN N)))
        refine nextb ?_ (hdk) ?_ ?_ ?_
        all_goals simp only [go_sem, ↓reduceIte, Nat.reduceEqDiff, Nat.reduceAdd, Nat.reduceSub, Nat.reduceLeDiff, reduceCtorEq, c48, c9, cg0, cg1, cg2, c2, c3, c5, c8, c42, c46, c47, eWorld, eCell, eTile]
      · simp only [Bool.true_or] at he
        (repeat (first | ((repeat (revert hN; revert N; apply Pn.out)); refine wk (tw @c48 (tw @c9 (tw @cg0 (tw @cg1 (tw @cg2 (tw @c2 (tw @c3 (tw @c5 (tw @c8 (tw @c42 (tw @c46 (tw @c47 (tw @hm (tw @b1 (tw @b2 (tw @b3 (tw @b4 (tw @he (tw @hbd (tw @hmb (tw @hidx (tw @hgk (tw @hob (tw @q8 (tw @eWorld.eq_1 (tw @eCell.eq_1 (tw @eTile.eq_1 (tw @eBool.eq_1 @ePoint.eq_1)))))))))))))))))))))))))))) ?_; (repeat (refine Pn.mk ?_; intro N hN))) | ((try apply Or.inl); refine ⟨_, RetS.x (hme) (sd (tw @c48 (tw @c9 (tw @cg0 (tw @cg1 (tw @cg2 (tw @c2 (tw @c3 (tw @c5 (tw @c8 (tw @c42 (tw @c46 (tw @c47 (tw @hm (tw @b1 (tw @b2 (tw @b3 (tw @b4 (tw @he (tw @hbd (tw @hmb (tw @hidx (tw @hgk (tw @hob (tw @q8 (tw @eWorld.eq_1 (tw @eCell.eq_1 (tw @eTile.eq_1 (tw @eBool.eq_1 @ePoint.eq_1))))))))))))))))))))))))))))), ?_⟩; refine hN _ _ ?_; clear hN N) | ((try apply Or.inl); refine ⟨_, RetS.x (hat) (sd (tw @c48 (tw @c9 (tw @cg0 (tw @cg1 (tw @cg2 (tw @c2 (tw @c3 (tw @c5 (tw @c8 (tw @c42 (tw @c46 (tw @c47 (tw @hm (tw @b1 (tw @b2 (tw @b3 (tw @b4 (tw @he (tw @hbd (tw @hmb (tw @hidx (tw @hgk (tw @hob (tw @q8 (tw @eWorld.eq_1 (tw @eCell.eq_1 (tw @eTile.eq_1 (tw @eBool.eq_1 @ePoint.eq_1))))))))))))))))))))))))))))), ?_⟩; refine hN _ _ ?_; clear hN N) | ((try apply Or.inl); refine ⟨_, Ret.x (hst) _, ?_⟩; refine hN _ _ ?_; clear hN N) | ((try apply Or.inl); refine ⟨_, Ret.x (hop) _, ?_⟩; refine hN _ _ ?_; clear hN N)))
        refine nextb ?_ (hdk) ?_ ?_ ?_
        all_goals simp only [go_sem, ↓reduceIte, Nat.reduceEqDiff, Nat.reduceAdd, Nat.reduceSub, Nat.reduceLeDiff, reduceCtorEq, c48, c9, cg0, cg1, cg2, c2, c3, c5, c8, c42, c46, c47, eWorld, eCell, eTile]
  · (try ((repeat (revert hN; revert N; apply Pn.out)); refine wk (tw @b42 (tw @bg0 (tw @bg1 (tw @bg2 (tw @b2 (tw @b3 (tw @b5 @hkd))))))) ?_; (repeat (refine Pn.mk ?_; intro N hN))))
    exact ret1Sb (b := true) (.inl rfl) (sd @Nat.zero_add) (hT (fun j hj => bA0 j (by omega)) fun j hj => aA0 j hj).symm

end Go.Proofs.YtpbniieiinhliaaGreat.V
