/- The library's contract of the sort, at points. -/
import Derived.Test.YtpbniieiinhliaaGreatEvO
import Derived.Test.YtpbniieiinhliaaGreatEvP
import Derived.Test.YtpbniieiinhliaaGreatEvG
set_option linter.unusedVariables false
set_option linter.unusedSimpArgs false
namespace Go.Proofs.YtpbniieiinhliaaGreat.V
open Go.RowKit Go.Shelf Go.Lib Go.Sort

def Grown (w w' : World) : Prop := ∃ (q : Nat) (os : Array Obj), w' = Go.Sort.grow (w.drewN q) os
theorem Grown.refl (w : World) : Grown w w := ⟨0, #[], by rw [grow_empty]; rfl⟩
theorem Grown.alloc {w w' : World} (h : Grown w w') (o : Obj) : Grown w (w'.alloc o) := by
  obtain ⟨q, os, rfl⟩ := h
  exact ⟨q, os ++ #[o], by rw [alloc_eq_grow, grow_grow]⟩
theorem Grown.drew {w w' : World} (h : Grown w w') : Grown w w'.drew := by
  obtain ⟨q, os, rfl⟩ := h
  exact ⟨q + 1, os, by rw [drew_grow]; rfl⟩
theorem Grown.dN {w w' : World} (h : Grown w w') (n : Nat) : Grown w (w'.drewN n) := by
  obtain ⟨q, os, rfl⟩ := h
  exact ⟨q + n, os, by
    show Go.Sort.grow ((w.drewN q).drewN n) os = Go.Sort.grow (w.drewN (q + n)) os
    simp [World.drewN, Nat.add_assoc]⟩

set_option maxRecDepth 100000 in
set_option maxHeartbeats 400000 in
theorem comparePoints_g (w : World) (a b : D_Point) : Calls Tryz.prog 92 #[.agg #[.int .i64 a.g_X, .int .i64 a.g_Y], .agg #[.int .i64 b.g_X, .int .i64 b.g_Y]] w fun e w' => e = .returned (.int .i64 (cmpP a b)) ∧ Grown w w' := by
  go_enter Tryz.func92, Tryz.ntmps92
  go_wp2_with fail
  go_region_held3 (fun w' => w'.cell? ⟨w.heap.size, 0, none⟩ = some (.int .i64 a.g_X) ∧ w'.cell? ⟨w.heap.size, 1, none⟩ = some (.int .i64 a.g_Y) ∧
      w'.cell? ⟨w.heap.size + 1, 0, none⟩ = some (.int .i64 b.g_X) ∧ w'.cell? ⟨w.heap.size + 1, 1, none⟩ = some (.int .i64 b.g_Y))
    (first | go_keep)
    (first | (go_at_call 123; refine (compare_any _ _ _).mono ?_; rintro e w' ⟨rfl, rfl⟩) | (go_at_call 122; refine (or2_any _ (cmp1 a.g_Y b.g_Y) (cmp1 a.g_X b.g_X) _ (by simp [go_sem]) (by simp [go_sem])).mono ?_; rintro e w' ⟨rfl, rfl⟩))
  go_wp2_with fail
  go_ret
  refine ⟨rfl, ?_⟩
  repeat (first | (with_reducible exact Grown.refl _) | (refine Grown.alloc ?_ _) | (refine Grown.drew ?_) | (refine Grown.dN ?_ _))

theorem swoP : SWO (ltOf cmpP) where
  irrefl x := by rw [ltOf, cmpP_lt]; exact ltB_irr
  trans x y z h1 h2 := by rw [ltOf, cmpP_lt] at *; exact ltB_trans h1 h2
  ntrans x y z h1 h2 := by rw [ltOf, cmpP_lt] at *; rw [ltB_false] at *; omega

theorem sortC : SortC := fun blk off cap d w hH hblk hsz => by
  have eg : ∀ args w, (callFunc 92 args).run Tryz.prog w = .ok (.enter 92 args) w := enters_of Tryz.func92 (by kernel_rfl) rfl
  have h := AnyQ.slices_SortFunc Tryz.sortPt 2 Tryz.isAgg52 Tryz.sizeOf52 enc_Point (fun _ => rfl) (fun x v hv => by simp [enc_Point] at hv; rcases hv with rfl | rfl <;> rfl) cmpP swoP 92 #[] blk off cap d w eg (fun m os dk _ x y => (comparePoints_g _ x y).mono fun _ _ ⟨he, q, os', hw⟩ => ⟨he, q, os', hw⟩) hH hblk hsz
  exact h
theorem sortN : SortN := fun p cap fv w => AnyF.slices_SortFunc_none Tryz.sortPt p cap fv w

end Go.Proofs.YtpbniieiinhliaaGreat.V

namespace Go.Proofs.YtpbniieiinhliaaGreat.V
open Go.RowKit
attribute [local irreducible] wpv wpOps
attribute [local go_sem] wantedV vop qop eop vis evO upd envOf K.av boxOf AV.cells AV.cell rowOf rowsOf part ld rowAt setR killR ibin vbin vsh vclear vsbin sbin eq1 eqL xorB vnil vnilS vnilF hiOf loOf vslice vsliceS viaddr vidxS vidxA vlen vnot vneg vconv vconvS vpick vchk vfield vextract vlenS fillV vmk rowsIn putCs vstore vappend seqQ blockQ most AV.undef callW List.getD_cons_zero List.getD_cons_succ List.getD_nil List.all_cons List.all_nil Bool.and_true Bool.true_and Bool.and_self Bool.not_true Bool.not_false Option.map_some Option.map_none Option.bind_some Option.bind_none List.length_cons List.length_nil List.take_succ_cons List.take_zero List.take_nil List.drop_succ_cons List.drop_zero List.drop_nil List.head?_cons List.map_cons List.map_nil List.getElem?_cons_zero List.getElem?_cons_succ List.cons_append List.nil_append List.append_nil List.length_map List.set_cons_zero List.set_cons_succ Nat.reduceMul eq_self Int.toNat_natCast Int.natCast_nonneg and_self true_and and_true decide_true decide_false Bool.false_eq_true Nat.zero_add Nat.add_zero List.contains_cons List.contains_nil Bool.or_false Bool.false_or beq_self_eq_true Nat.reduceBEq ne_eq not_true_eq_false not_false_eq_true Id.mk.injEq false_and and_false Nat.reduceLT Int.reduceLE Int.reduceLT Int.reduceToNat Int.reduceNeg Int.reduceAdd Nat.le_refl List.length_append beq_true beq_false Bool.not_eq_eq_eq_not rw_ fzRow_cons fzRow_nil fz_int fz_bool fz_str fz_sl fz_nils fz_agg fz_iptr fz_ptrE fz_fn fz_nilp fz_nilf fz_tup

set_option maxRecDepth 100000 in
set_option maxHeartbeats 4000000 in
theorem iEventsOf_v (s : D_SignalSet) (temp : Int) (cells : List D_SignalCell) (hs : SmallSet s) (hn : SmallNames s) (σ : Store) :
    Call Tryz.prog 11 [.agg (eSet s), .int .i64 temp, .sl (cells.map eCell)] σ fun r σ' => ∃ L code x, r = .tup [x, .int .i64 code] ∧ OutG eEvent 4 x σ'.get OutS L ∧ EvAns s temp cells L code := by
  refine CallB cf11 rfl fun hl => ?_
  try simp only [q]
  clear hl
  have hask := signalCode_v s temp cells hs hn
  by_cases h0 : askN s temp cells = 0
  · have hok : CellsOk s cells := cellsB_ok (by
      unfold askN at h0
      split at h0
      · assumption
      · cases h0)
    obtain ⟨qs, hR, hm⟩ := ris_exists (arL cells cells.length)
    (repeat (first | ((first | apply w_seq | apply w_reg); intro N hN) | ((first | (apply w_op; intro N hN) | apply w_condB); simp only [go_sem, ↓reduceIte, Nat.reduceEqDiff, Nat.reduceAdd, Nat.reduceSub, Nat.reduceLeDiff, reduceCtorEq, h0, eSet]; first | (refine hN _ _ ?_; clear hN N) | (rfl; change wpv _ _ _ _ _) | skip) | (apply w_nil; refine hN _ _ ?_; clear hN N; try (simp only [seqQ, blockQ, ↓reduceIte, Nat.reduceEqDiff]); try (refine hN _ _ ?_; clear hN N)) | apply w_block | ((first | apply w_skip | apply w_exit | apply w_ret); try (simp only [seqQ, blockQ, ↓reduceIte, Nat.reduceEqDiff]); try (refine hN _ _ ?_; clear hN N)) | ((first | refine hN _ _ ?_ | (clear hN N; first | refine hN _ _ ?_ | (clear hN N; first | refine hN _ _ ?_ | (clear hN N; first | refine hN _ _ ?_ | (clear hN N; refine hN _ _ ?_))))); clear hN N) | (refine .inl ⟨_, RetS.x (hask) ?_, ?_⟩; (focus (simp only [go_sem, ↓reduceIte, Nat.reduceEqDiff, Nat.reduceAdd, Nat.reduceSub, Nat.reduceLeDiff, reduceCtorEq, h0, eSet]; done)); refine hN _ _ ?_; clear hN N)))
    refine .inr ?_
    refine Call_mono _ _ _ _ _ (fun r σ' hq => ?_) (iEvents_v sortC sortN s temp cells hok qs hR hm _)
    refine hN _ _ ?_
    clear hN N
    (repeat (first | ((first | apply w_seq | apply w_reg); intro N hN) | ((first | (apply w_op; intro N hN) | apply w_condB); simp only [go_sem, ↓reduceIte, Nat.reduceEqDiff, Nat.reduceAdd, Nat.reduceSub, Nat.reduceLeDiff, reduceCtorEq]; first | (refine hN _ _ ?_; clear hN N) | (rfl; change wpv _ _ _ _ _) | skip) | (apply w_nil; refine hN _ _ ?_; clear hN N; try (simp only [seqQ, blockQ, ↓reduceIte, Nat.reduceEqDiff]); try (refine hN _ _ ?_; clear hN N)) | apply w_block | ((first | apply w_skip | apply w_exit | apply w_ret); try (simp only [seqQ, blockQ, ↓reduceIte, Nat.reduceEqDiff]); try (refine hN _ _ ?_; clear hN N)) | ((first | refine hN _ _ ?_ | (clear hN N; first | refine hN _ _ ?_ | (clear hN N; first | refine hN _ _ ?_ | (clear hN N; first | refine hN _ _ ?_ | (clear hN N; refine hN _ _ ?_))))); clear hN N)))
    refine retO (vs := [r, .int .i64 0]) (.inl rfl) (by simp only [vresL, vres1, go_sem, ↓reduceIte, Nat.reduceEqDiff, Nat.reduceAdd, Nat.reduceSub, Nat.reduceLeDiff, reduceCtorEq]) ⟨_, 0, r, rfl, hq, h0.symm, fun h => absurd rfl h, fun _ => ⟨qs.filter (goodB cells), List.Pairwise.sublist List.filter_sublist hR, fun x => ?_, endI_eq s temp cells qs⟩⟩
    rw [List.mem_filter, hm, arL_mem _ (Nat.le_refl _), goodB_iff, nearN]
    constructor
    · rintro ⟨h1, h2⟩; exact ⟨h2, .inl h1⟩
    · rintro ⟨h1, h2 | ⟨d, hd, _⟩⟩
      · exact ⟨h2, h1⟩
      · omega
  · (repeat (first | ((first | apply w_seq | apply w_reg); intro N hN) | ((first | (apply w_op; intro N hN) | apply w_condB); simp only [go_sem, ↓reduceIte, Nat.reduceEqDiff, Nat.reduceAdd, Nat.reduceSub, Nat.reduceLeDiff, reduceCtorEq, h0, eSet]; first | (refine hN _ _ ?_; clear hN N) | (rfl; change wpv _ _ _ _ _) | skip) | (apply w_nil; refine hN _ _ ?_; clear hN N; try (simp only [seqQ, blockQ, ↓reduceIte, Nat.reduceEqDiff]); try (refine hN _ _ ?_; clear hN N)) | apply w_block | ((first | apply w_skip | apply w_exit | apply w_ret); try (simp only [seqQ, blockQ, ↓reduceIte, Nat.reduceEqDiff]); try (refine hN _ _ ?_; clear hN N)) | ((first | refine hN _ _ ?_ | (clear hN N; first | refine hN _ _ ?_ | (clear hN N; first | refine hN _ _ ?_ | (clear hN N; first | refine hN _ _ ?_ | (clear hN N; refine hN _ _ ?_))))); clear hN N) | (refine .inl ⟨_, RetS.x (hask) ?_, ?_⟩; (focus (simp only [go_sem, ↓reduceIte, Nat.reduceEqDiff, Nat.reduceAdd, Nat.reduceSub, Nat.reduceLeDiff, reduceCtorEq, h0, eSet]; done)); refine hN _ _ ?_; clear hN N)))
    exact retO (vs := [.nils, .int .i64 (askN s temp cells)]) (.inl rfl) (by simp only [vresL, vres1, go_sem, ↓reduceIte, Nat.reduceEqDiff, Nat.reduceAdd, Nat.reduceSub, Nat.reduceLeDiff, reduceCtorEq]) ⟨[], _, .nils, rfl, .inl ⟨rfl, rfl⟩, rfl, fun _ => rfl, fun h => absurd h h0⟩

end Go.Proofs.YtpbniieiinhliaaGreat.V
