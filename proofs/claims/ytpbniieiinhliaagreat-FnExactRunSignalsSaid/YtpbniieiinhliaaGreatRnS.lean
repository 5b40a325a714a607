/- The library's contract of the sort, at points. -/
import Derived.Test.YtpbniieiinhliaaGreatRnQ
import Derived.Test.YtpbniieiinhliaaGreatRnR
import Derived.Test.YtpbniieiinhliaaGreatRnG
import Derived.Test.YtpbniieiinhliaaGreatRnP
import Derived.Test.YtpbniieiinhliaaGreatRnL
import Derived.Test.YtpbniieiinhliaaGreatRnH
import Derived.Test.YtpbniieiinhliaaGreatRnN
import Derived.Test.YtpbniieiinhliaaGreatRnO
import Derived.Test.YtpbniieiinhliaaGreatRnK
set_option linter.unusedVariables false
set_option linter.unusedSimpArgs false
namespace Go.Proofs.YtpbniieiinhliaaGreat.V
open Go.RowKit Go.Shelf Go.Lib Go.Sort

def Grown (w w' : World) : Prop := ∃ (q : Nat) (os : Array Obj), w' = Go.Sort.grow (w.drewN q) os
theorem Grown.refl (w : World) : Grown w w := ⟨0, #[], by rw [grow_empty]; rfl⟩
theorem Grown.alloc {w w' : World} (h : Grown w w') (o : Obj) : Grown w (w'.alloc o) := by
  obtain ⟨q, os, rfl⟩ := h
  exact ⟨q, os ++ #[o], by rw [alloc_eq_grow, grow_grow]⟩
theorem Grown.drew {w w' : World} (h : Grown w w') : Grown w w'.drew := by
  obtain ⟨q, os, rfl⟩ := h
  exact ⟨q + 1, os, by rw [drew_grow]; rfl⟩
theorem Grown.dN {w w' : World} (h : Grown w w') (n : Nat) : Grown w (w'.drewN n) := by
  obtain ⟨q, os, rfl⟩ := h
  exact ⟨q + n, os, by
    show Go.Sort.grow ((w.drewN q).drewN n) os = Go.Sort.grow (w.drewN (q + n)) os
    simp [World.drewN, Nat.add_assoc]⟩

set_option maxRecDepth 100000 in
set_option maxHeartbeats 400000 in
theorem comparePoints_g (w : World) (a b : D_Point) : Calls Tryz.prog 92 #[.agg #[.int .i64 a.g_X, .int .i64 a.g_Y], .agg #[.int .i64 b.g_X, .int .i64 b.g_Y]] w fun e w' => e = .returned (.int .i64 (cmpP a b)) ∧ Grown w w' := by
  go_enter Tryz.func92, Tryz.ntmps92
  go_wp2_with fail
  go_region_held3 (fun w' => w'.cell? ⟨w.heap.size, 0, none⟩ = some (.int .i64 a.g_X) ∧ w'.cell? ⟨w.heap.size, 1, none⟩ = some (.int .i64 a.g_Y) ∧
      w'.cell? ⟨w.heap.size + 1, 0, none⟩ = some (.int .i64 b.g_X) ∧ w'.cell? ⟨w.heap.size + 1, 1, none⟩ = some (.int .i64 b.g_Y))
    (first | go_keep)
    (first | (go_at_call 123; refine (compare_any _ _ _).mono ?_; rintro e w' ⟨rfl, rfl⟩) | (go_at_call 122; refine (or2_any _ (cmp1 a.g_Y b.g_Y) (cmp1 a.g_X b.g_X) _ (by simp [go_sem]) (by simp [go_sem])).mono ?_; rintro e w' ⟨rfl, rfl⟩))
  go_wp2_with fail
  go_ret
  refine ⟨rfl, ?_⟩
  repeat (first | (with_reducible exact Grown.refl _) | (refine Grown.alloc ?_ _) | (refine Grown.drew ?_) | (refine Grown.dN ?_ _))

theorem swoP : SWO (ltOf cmpP) where
  irrefl x := by rw [ltOf, cmpP_lt]; exact ltB_irr
  trans x y z h1 h2 := by rw [ltOf, cmpP_lt] at *; exact ltB_trans h1 h2
  ntrans x y z h1 h2 := by rw [ltOf, cmpP_lt] at *; rw [ltB_false] at *; omega

theorem sortC : SortC := fun blk off cap d w hH hblk hsz => by
  have eg : ∀ args w, (callFunc 92 args).run Tryz.prog w = .ok (.enter 92 args) w := enters_of Tryz.func92 (by kernel_rfl) rfl
  have h := AnyQ.slices_SortFunc Tryz.sortPt 2 Tryz.isAgg52 Tryz.sizeOf52 enc_Point (fun _ => rfl) (fun x v hv => by simp [enc_Point] at hv; rcases hv with rfl | rfl <;> rfl) cmpP swoP 92 #[] blk off cap d w eg (fun m os dk _ x y => (comparePoints_g _ x y).mono fun _ _ ⟨he, q, os', hw⟩ => ⟨he, q, os', hw⟩) hH hblk hsz
  exact h
theorem sortN : SortN := fun p cap fv w => AnyF.slices_SortFunc_none Tryz.sortPt p cap fv w

end Go.Proofs.YtpbniieiinhliaaGreat.V

namespace Go.Proofs.YtpbniieiinhliaaGreat.V
open Go.RowKit
attribute [local irreducible] wpv wpOps PCx Call
attribute [local go_sem] wantedV vop qop eop vis evO upd envOf K.av boxOf AV.cells AV.cell rowOf rowsOf part ld rowAt setR killR ibin vbin vsh vclear vsbin sbin eq1 eqL xorB vnil vnilS vnilF hiOf loOf vslice vsliceS viaddr vidxS vidxA vlen vnot vneg vconv vconvS vpick vchk vfield vextract vlenS fillV vmk rowsIn putCs vstore vappend seqQ blockQ most AV.undef callW locP locQ List.getD_cons_zero List.getD_cons_succ List.getD_nil List.all_cons List.all_nil Bool.and_true Bool.true_and Bool.and_self Bool.not_true Bool.not_false Option.map_some Option.map_none Option.bind_some Option.bind_none List.length_cons List.length_nil List.take_succ_cons List.take_zero List.take_nil List.drop_succ_cons List.drop_zero List.drop_nil List.head?_cons List.map_cons List.map_nil List.getElem?_cons_zero List.getElem?_cons_succ List.cons_append List.nil_append List.append_nil List.length_map List.set_cons_zero List.set_cons_succ Nat.reduceMul eq_self Int.toNat_natCast Int.natCast_nonneg and_self true_and and_true decide_true decide_false Bool.false_eq_true Nat.zero_add Nat.add_zero List.contains_cons List.contains_nil Bool.or_false Bool.false_or beq_self_eq_true Nat.reduceBEq ne_eq not_true_eq_false not_false_eq_true Id.mk.injEq false_and and_false Nat.reduceLT Int.reduceLE Int.reduceLT Int.reduceToNat Int.reduceNeg Int.reduceAdd Nat.le_refl List.length_append beq_true beq_false Bool.not_eq_eq_eq_not or_false false_or rw_ fzRow_cons fzRow_nil fz_int fz_bool fz_str fz_sl fz_nils fz_agg fz_iptr fz_ptrE fz_fn


theorem fzS_ev (g : Rows) (n : Nat) (x : D_SignalEvent) : fzSRow g (n + 1) (eEvent x) = some (eEvent x) := by simp [eEvent, fzSRow_cons, fzSRow_nil, fzS_int]
theorem iEventsS_v (s : D_SignalSet) (temp : Int) (cells : List D_SignalCell) (hok : CellsOk s cells) : ∃ ps, Ris ps ∧ (∀ x, x ∈ ps ↔ nearN cells cells.length 0 x) ∧ RetS Tryz.prog 37 [.agg (eWorld s temp cells)] (slN ((eventsL s temp cells ps).map eEvent)) := by
  obtain ⟨qs, hR, hm⟩ := ris_exists (arL cells cells.length)
  refine ⟨qs.filter (goodB cells), List.Pairwise.sublist List.filter_sublist hR, fun x => ?_, fun n => ?_⟩
  · rw [List.mem_filter, hm, arL_mem _ (Nat.le_refl _), goodB_iff, nearN]
    constructor
    · rintro ⟨h1, h2⟩; exact ⟨h2, .inl h1⟩
    · rintro ⟨h1, h2 | ⟨d, hd, _⟩⟩
      · exact ⟨h2, h1⟩
      · omega
  · refine Call_mono _ _ _ _ _ (fun r σ' hq => ?_) (iEvents_v sortC sortN s temp cells hok qs hR hm _)
    rw [endI_eq] at hq
    rcases hq with ⟨h1, rfl⟩ | ⟨o, _, hp, rfl, hg⟩
    · exact ⟨_, fzS_nils _ _, by rw [h1]; rfl⟩
    · refine ⟨_, fzS_own_map hg rfl (fun x => fzS_ev _ 4 x), ?_⟩
      unfold slN
      rw [if_neg]
      intro h
      rw [List.map_eq_nil_iff] at h
      rw [h] at hp; simp at hp

end Go.Proofs.YtpbniieiinhliaaGreat.V

namespace Go.Proofs.YtpbniieiinhliaaGreat.V
open Go.RowKit

theorem pts_exists (cells : List D_SignalCell) : ∃ ps, Ris ps ∧ ∀ x, x ∈ ps ↔ nearN cells cells.length 0 x := by
  obtain ⟨qs, hR, hm⟩ := ris_exists (arL cells cells.length)
  refine ⟨qs.filter (goodB cells), List.Pairwise.sublist List.filter_sublist hR, fun x => ?_⟩
  rw [List.mem_filter, hm, arL_mem _ (Nat.le_refl _), goodB_iff, nearN]
  constructor
  · rintro ⟨h1, h2⟩; exact ⟨h2, .inl h1⟩
  · rintro ⟨h1, h2 | ⟨d, hd, _⟩⟩
    · exact ⟨h2, h1⟩
    · omega
/-- The events of cells. -/
noncomputable def evL (s : D_SignalSet) (temp : Int) (cells : List D_SignalCell) : List D_SignalEvent := eventsL s temp cells (Classical.choose (pts_exists cells))
theorem evL_eq {s : D_SignalSet} {temp : Int} {cells : List D_SignalCell} {ps : List D_Point} (hR : Ris ps) (hP : ∀ x, x ∈ ps ↔ nearN cells cells.length 0 x) : eventsL s temp cells ps = evL s temp cells := by
  have h := Classical.choose_spec (pts_exists cells)
  rw [evL, Ris.ext hR h.1 fun x => by rw [hP, h.2]]
theorem evL_can {s : D_SignalSet} {temp : Int} {cells : List D_SignalCell} {e : D_SignalEvent} (hok : CellsOk s cells) (ht : 1 ≤ temp) (h : e ∈ evL s temp cells) : canE s temp cells e = true :=
  (mem_events hok ht (Classical.choose_spec (pts_exists cells)).2).1 h
/-- At most m more events, behind n. -/
noncomputable def runN (s : D_SignalSet) (temp : Int) (sch : List Int) : Nat → Nat → List D_SignalCell → List D_SignalCell × Nat × Int
  | 0, n, cells => (cells, n, 0)
  | m + 1, n, cells =>
    if (evL s temp cells).length = 0 then (cells, n, 0)
    else if fullE cells (eA (evL s temp cells) (selN sch n (evL s temp cells).length)) then ([], 0, 4)
    else runN s temp sch m (n + 1) (doE s cells (eA (evL s temp cells) (selN sch n (evL s temp cells).length)))
theorem run_none {s : D_SignalSet} {temp : Int} {sch : List Int} {m n : Nat} {cells : List D_SignalCell} (h : (evL s temp cells).length = 0) : runN s temp sch m n cells = (cells, n, 0) := by
  cases m with
  | zero => rfl
  | succ m => rw [runN, if_pos h]
theorem eA_mem {L : List D_SignalEvent} {k : Nat} (h : k < L.length) : eA L k ∈ L := by
  unfold eA
  rw [List.getD_eq_getElem?_getD, List.getElem?_eq_getElem h]
  exact List.getElem_mem h
theorem run_small {s : D_SignalSet} {temp : Int} {sch : List Int} (ht : 1 ≤ temp) : ∀ (m n : Nat) (cells : List D_SignalCell), CellsOk s cells → CellsOk s (runN s temp sch m n cells).1 ∨ (runN s temp sch m n cells).1 = []
  | 0, n, cells, h => .inl h
  | m + 1, n, cells, h => by
    rw [runN]
    split
    · exact .inl h
    · rename_i h0
      split
      · exact .inr rfl
      · rename_i hf
        exact run_small ht m (n + 1) _ (doE_ok h (evL_can h ht (eA_mem (selN_lt sch n (by omega)))) (by simpa using hf))
/-- What RunSignals answers. -/
noncomputable def runA (s : D_SignalSet) (temp : Int) (cells : List D_SignalCell) (sch : List Int) (steps : Int) : List D_SignalCell × Nat × Int :=
  if askN s temp cells = 0 then (if schB sch && inB steps 0 1000 then runN s temp sch steps.toNat 0 cells else ([], 0, 2)) else ([], 0, askN s temp cells)
/-- Cells of the call's own, and two numbers. -/
def RunK (o : List D_SignalCell × Nat × Int) (r : AV) (σ' : Store) : Prop := ∃ x ids, r = .tup [x, .int .i64 (o.2.1 : Int), .int .i64 o.2.2] ∧ CellsO σ'.get x o.1 ids ∧ ids.Nodup

end Go.Proofs.YtpbniieiinhliaaGreat.V

namespace Go.Proofs.YtpbniieiinhliaaGreat.V
open Go.RowKit
attribute [local irreducible] wpv wpOps PCx Call
attribute [local go_sem] wantedV vop qop eop vis evO upd envOf K.av boxOf AV.cells AV.cell rowOf rowsOf part ld rowAt setR killR ibin vbin vsh vclear vsbin sbin eq1 eqL xorB vnil vnilS vnilF hiOf loOf vslice vsliceS viaddr vidxS vidxA vlen vnot vneg vconv vconvS vpick vchk vfield vextract vlenS fillV vmk rowsIn putCs vstore vappend seqQ blockQ most AV.undef callW locP locQ List.getD_cons_zero List.getD_cons_succ List.getD_nil List.all_cons List.all_nil Bool.and_true Bool.true_and Bool.and_self Bool.not_true Bool.not_false Option.map_some Option.map_none Option.bind_some Option.bind_none List.length_cons List.length_nil List.take_succ_cons List.take_zero List.take_nil List.drop_succ_cons List.drop_zero List.drop_nil List.head?_cons List.map_cons List.map_nil List.getElem?_cons_zero List.getElem?_cons_succ List.cons_append List.nil_append List.append_nil List.length_map List.set_cons_zero List.set_cons_succ Nat.reduceMul eq_self Int.toNat_natCast Int.natCast_nonneg and_self true_and and_true decide_true decide_false Bool.false_eq_true Nat.zero_add Nat.add_zero List.contains_cons List.contains_nil Bool.or_false Bool.false_or beq_self_eq_true Nat.reduceBEq ne_eq not_true_eq_false not_false_eq_true Id.mk.injEq false_and and_false Nat.reduceLT Int.reduceLE Int.reduceLT Int.reduceToNat Int.reduceNeg Int.reduceAdd Nat.le_refl List.length_append beq_true beq_false Bool.not_eq_eq_eq_not or_false false_or rw_ fzRow_cons fzRow_nil fz_int fz_bool fz_str fz_sl fz_nils fz_agg fz_iptr fz_ptrE fz_fn

set_option maxRecDepth 100000 in
set_option maxHeartbeats 4000000 in
theorem iEvents0_v (s : D_SignalSet) (temp : Int) : RetS Tryz.prog 37 [.agg [.sl (s.g_Glues.map eGlue), .sl (s.g_Tiles.map eTile), .int .i64 temp, .nils]] .nils := by
  refine RetS.body cfE rfl fun hl n0 => ?_
  clear hl
  (try ((repeat (revert hN; revert N; apply Pn.out)); refine wk @Nat.zero_add ?_; (repeat (refine Pn.mk ?_; intro N hN))))
  refine w_loopF (fun n env st => ∃ i : Nat, n = (0) - i ∧ i ≤ (0) ∧ env 14 = .int .i64 (i : Int) ∧ env 3 = .nils ∧ env 4 = .nils) (0) ⟨0, by omega, by omega, by (try simp only [go_sem, ↓reduceIte, Nat.reduceEqDiff, Nat.reduceAdd, Nat.reduceSub, Nat.reduceLeDiff, reduceCtorEq]); try rfl, by (try simp only [go_sem, ↓reduceIte, Nat.reduceEqDiff, Nat.reduceAdd, Nat.reduceSub, Nat.reduceLeDiff, reduceCtorEq]); try rfl, by (try simp only [go_sem, ↓reduceIte, Nat.reduceEqDiff, Nat.reduceAdd, Nat.reduceSub, Nat.reduceLeDiff, reduceCtorEq]); try rfl⟩ ?_
  rintro n_a env_a st_a ⟨i, rfl, ale, a14, a3, a4⟩ afr
  have a13 := afr 13 (by kernel_rfl)
  simp only [go_sem, ↓reduceIte, Nat.reduceEqDiff, Nat.reduceAdd, Nat.reduceSub, Nat.reduceLeDiff, reduceCtorEq] at a13
  clear afr
  have hk : ¬ (i : Int) < ((0 : Nat) : Int) := by omega
  (repeat (first | ((repeat (revert hN; revert N; apply Pn.out)); refine wk (tw @a14 (tw @a3 (tw @a4 (tw @a13 @hk)))) ?_; (repeat (refine Pn.mk ?_; intro N hN))) | ((try apply Or.inl); refine ⟨_, RetS.x (sortedNil_v sortN) (sd (tw @a14 (tw @a3 (tw @a4 (tw @a13 @hk))))), ?_⟩; refine hN _ _ ?_; clear hN N)))
  refine w_loopF (fun n env st => ∃ j : Nat, n = (0) - j ∧ j ≤ (0) ∧ env 38 = .int .i64 (j : Int) ∧ env 3 = .nils) (0) ⟨0, by omega, by omega, by (try simp only [go_sem, ↓reduceIte, Nat.reduceEqDiff, Nat.reduceAdd, Nat.reduceSub, Nat.reduceLeDiff, reduceCtorEq, a14, a3, a4, a13]); try rfl, by (try simp only [go_sem, ↓reduceIte, Nat.reduceEqDiff, Nat.reduceAdd, Nat.reduceSub, Nat.reduceLeDiff, reduceCtorEq, a14, a3, a4, a13]); try rfl⟩ ?_
  rintro n_b env_b st_b ⟨j, rfl, ble, b38, b3⟩ bfr
  have b37 := bfr 37 (by kernel_rfl)
  simp only [go_sem, ↓reduceIte, Nat.reduceEqDiff, Nat.reduceAdd, Nat.reduceSub, Nat.reduceLeDiff, reduceCtorEq, a14, a3, a4, a13] at b37
  clear bfr
  have hk2 : ¬ (j : Int) < ((0 : Nat) : Int) := by omega
  (try ((repeat (revert hN; revert N; apply Pn.out)); refine wk (tw @b38 (tw @b3 (tw @b37 @hk2))) ?_; (repeat (refine Pn.mk ?_; intro N hN))))
  exact ret1S (.inl rfl) (sd @Nat.zero_add) (fzS_nils _ _)

/-- The program's events, over cells of one's own. -/
theorem iEvO_v {s : D_SignalSet} {temp : Int} {c : List D_SignalCell} {g : Rows} {x : AV} {ids : List Id} (hok : CellsOk s c) (hO : CellsO g x c ids) :
    ∃ args', fzRow (rw_ g) 6 [.agg [.sl (s.g_Glues.map eGlue), .sl (s.g_Tiles.map eTile), .int .i64 temp, x]] = some args' ∧ RetS Tryz.prog 37 args' (slN ((evL s temp c).map eEvent)) := by
  by_cases hp : 0 < c.length
  · obtain ⟨ps, hR, hP, hev⟩ := iEventsS_v s temp c hok
    rw [evL_eq hR hP] at hev
    rcases hO with ⟨rfl, _, _⟩ | ⟨o, rows, is, rfl, ho, hR, rfl⟩
    · simp at hp
    · refine ⟨_, ?_, hev⟩
      have := fz_rowsN 2 hR ho
      simp only [fzRow_cons, fzRow_nil, fz_agg, fz_sl, fz_int, this]
      rfl
  · obtain rfl : c = [] := by cases c with
      | nil => rfl
      | cons a l => simp at hp
    have hL : evL s temp [] = [] := by
      have h := Classical.choose_spec (pts_exists [])
      have h2 : Classical.choose (pts_exists []) = [] := by
        refine List.eq_nil_iff_forall_not_mem.2 fun p hp => ?_
        obtain ⟨_, ⟨j, d, hj, _⟩ | ⟨d, hd, _⟩⟩ := (h.2 p).1 hp
        · simp at hj
        · omega
      rw [evL, h2]; rfl
    rw [hL]
    rcases hO with ⟨_, rfl, _⟩ | ⟨o, rows, is, rfl, ho, hR, rfl⟩
    · refine ⟨_, ?_, iEvents0_v s temp⟩
      simp only [fzRow_cons, fzRow_nil, fz_agg, fz_sl, fz_int, fz_nils]
      rfl
    · obtain ⟨ps, hR2, hP, hev⟩ := iEventsS_v s temp [] hok
      rw [evL_eq hR2 hP, hL] at hev
      refine ⟨_, ?_, hev⟩
      have := fz_rowsN 2 hR ho
      simp only [fzRow_cons, fzRow_nil, fz_agg, fz_sl, fz_int, this]
      rfl

theorem playO_v (s : D_SignalSet) (temp : Int) (cells : List D_SignalCell) (e : D_SignalEvent) (ht : 1 ≤ temp) (hok : CellsOk s cells) (hc : canE s temp cells e = true) (σ : Store) (o : Id) (rows : List (List AV)) (is : List Id) (ho : σ.get o = some ⟨true, 6, rows⟩) (hR : RowsN CellO σ.get rows cells is) (hv : ∀ i ∈ o :: is, i.ver < σ.next) :
    Call Tryz.prog 50 [.agg [.sl (s.g_Glues.map eGlue), .sl (s.g_Tiles.map eTile), .int .i64 temp, .own o 0 cells.length], .agg (eEvent e)] σ (PlayK s temp cells e σ) :=
  play_v s temp cells e ht hok hc (.own o 0 cells.length) rfl σ fun σ1 hk => cloneO_v s temp cells hok.few (fun c hcm => ⟨(hok.form c hcm).on, (hok.form c hcm).bound, hok.six c hcm⟩) σ1 o rows is ((hk.2 o (hv o (by simp))).trans ho) (hR.frame cellOk fun i hi => hk.2 i (hv i (by simp [hi]))) fun i hi => Nat.lt_of_lt_of_le (hv i hi) hk.1

set_option maxRecDepth 100000 in
set_option maxHeartbeats 4000000 in
theorem iRunSignals_v (s : D_SignalSet) (temp : Int) (cells : List D_SignalCell) (sch : List Int) (steps : Int) (hs : SmallSet s) (hn : SmallNames s) (σ : Store) :
    Call Tryz.prog 25 [.agg (eSet s), .int .i64 temp, .sl (cells.map eCell), .sl (sch.map eInt), .int .i64 steps] σ (RunK (runA s temp cells sch steps)) := by
  refine CallBM cf25m rfl fun hl => ?_
  try simp only [q]
  clear hl
  have hask := signalCode_v s temp cells hs hn
  have hsc := validSchedule_v sch
  by_cases h0 : askN s temp cells = 0
  · obtain ⟨hok, ht⟩ := ask_ok h0
    have ht1 := (inB_true ht).1
    cases hb : schB sch
    · have hp : runA s temp cells sch steps = ([], 0, 2) := by simp [runA, h0, hb]
      rw [hp]
      (repeat (first | ((repeat (revert hN; revert N; apply Pn.out)); refine wk (tw @h0 (tw @hb @eSet.eq_1)) ?_; (repeat (refine Pn.mk ?_; intro N hN))) | ((try apply Or.inl); refine ⟨_, RetS.x (hask) (sd (tw @h0 (tw @hb @eSet.eq_1))), ?_⟩; refine hN _ _ ?_; clear hN N) | ((try apply Or.inl); refine ⟨_, RetS.x (hsc) (sd (tw @h0 (tw @hb @eSet.eq_1))), ?_⟩; refine hN _ _ ?_; clear hN N)))
      exact retO (.inl rfl) (by simp only [vresL, vres1, go_sem, ↓reduceIte, Nat.reduceEqDiff, Nat.reduceAdd, Nat.reduceSub, Nat.reduceLeDiff, reduceCtorEq]; rfl) ⟨_, [], rfl, .inl ⟨rfl, rfl, rfl⟩, List.nodup_nil⟩
    cases hi : inB steps 0 1000
    · have hp : runA s temp cells sch steps = ([], 0, 2) := by simp [runA, h0, hi]
      rw [hp]
      (repeat (first | ((repeat (revert hN; revert N; apply Pn.out)); refine wk (tw @h0 (tw @hb (tw @hi @eSet.eq_1))) ?_; (repeat (refine Pn.mk ?_; intro N hN))) | ((try apply Or.inl); refine ⟨_, RetS.x (hask) (sd (tw @h0 (tw @hb (tw @hi @eSet.eq_1)))), ?_⟩; refine hN _ _ ?_; clear hN N) | ((try apply Or.inl); refine ⟨_, RetS.x (hsc) (sd (tw @h0 (tw @hb (tw @hi @eSet.eq_1)))), ?_⟩; refine hN _ _ ?_; clear hN N) | ((try apply Or.inl); refine ⟨_, Ret.x (within_v steps 0 1000) _, ?_⟩; refine hN _ _ ?_; clear hN N)))
      exact retO (.inl rfl) (by simp only [vresL, vres1, go_sem, ↓reduceIte, Nat.reduceEqDiff, Nat.reduceAdd, Nat.reduceSub, Nat.reduceLeDiff, reduceCtorEq]; rfl) ⟨_, [], rfl, .inl ⟨rfl, rfl, rfl⟩, List.nodup_nil⟩
    have hst := inB_true hi
    have hp : runA s temp cells sch steps = runN s temp sch steps.toNat 0 cells := by simp [runA, h0, hb, hi]
    rw [hp]
    have he : steps = (steps.toNat : Int) := by omega
    (repeat (first | ((repeat (revert hN; revert N; apply Pn.out)); refine wk (tw @h0 (tw @hb (tw @hi @eSet.eq_1))) ?_; (repeat (refine Pn.mk ?_; intro N hN))) | ((try apply Or.inl); refine ⟨_, RetS.x (hask) (sd (tw @h0 (tw @hb (tw @hi @eSet.eq_1)))), ?_⟩; refine hN _ _ ?_; clear hN N) | ((try apply Or.inl); refine ⟨_, RetS.x (hsc) (sd (tw @h0 (tw @hb (tw @hi @eSet.eq_1)))), ?_⟩; refine hN _ _ ?_; clear hN N) | ((try apply Or.inl); refine ⟨_, Ret.x (within_v steps 0 1000) _, ?_⟩; refine hN _ _ ?_; clear hN N)))
    refine .inr (Call_mono _ _ _ _ _ (fun r σ1 hq => ?_) (clone_v s temp cells hok.few (fun c hcm => ⟨(hok.form c hcm).on, (hok.form c hcm).bound, hok.six c hcm⟩) _))
    obtain ⟨x, ids, rfl, hO, hni, hk1, hk2⟩ := hq
    simp only [] at hk1 hni
    have hxc : x.cell = true := by
      rcases hO with ⟨_, rfl, _⟩ | ⟨_, _, _, rfl, _⟩ <;> rfl
    simp only [AV.cell] at hxc
    refine hN _ _ ?_
    clear hN N
    (repeat (first | ((repeat (revert hN; revert N; apply Pn.out)); refine wk @hxc ?_; (repeat (refine Pn.mk ?_; intro N hN))) | ((try apply Or.inl); refine ⟨_, Ret.x (selection_v sch) _, ?_⟩; refine hN _ _ ?_; clear hN N)))
    refine w_loopF (fun n env st => ∃ k : Nat, n = (steps.toNat + 1) - k ∧ k ≤ (steps.toNat + 1) ∧ env 16 = .int .i64 (k : Int) ∧ (∃ c x ids, st.get ⟨25006005, σ1.next⟩ = some ⟨true, 4, [[.sl (s.g_Glues.map eGlue), .sl (s.g_Tiles.map eTile), .int .i64 temp, x]]⟩ ∧ CellsOk s c ∧ CellsO st.get x c ids ∧ ids.Nodup ∧ (∀ i ∈ ids, i.ver < st.next ∧ i.ver ≠ σ1.next) ∧ σ1.next < st.next ∧ k ≤ steps.toNat ∧ runN s temp sch steps.toNat 0 cells = runN s temp sch (steps.toNat - k) k c)) (steps.toNat + 1) ⟨0, by omega, by omega, by (try simp only [go_sem, ↓reduceIte, Nat.reduceEqDiff, Nat.reduceAdd, Nat.reduceSub, Nat.reduceLeDiff, reduceCtorEq, h0]); try rfl, ⟨cells, x, ids, sd @Nat.zero_add, hok, hO.frame cellOk fun i hi => sd (vne (hni.2 i hi).2), hni.1, fun i hi => (by have := (hni.2 i hi).2; (try dsimp only); omega), by (try dsimp only); omega, by omega, rfl⟩⟩ ?_
    rintro n_a env_a st_a ⟨k, rfl, ale, a16, aI0⟩ afr
    have a4 := afr 4 (by kernel_rfl); have a14 := afr 14 (by kernel_rfl); have a15 := afr 15 (by kernel_rfl)
    simp only [go_sem, ↓reduceIte, Nat.reduceEqDiff, Nat.reduceAdd, Nat.reduceSub, Nat.reduceLeDiff, reduceCtorEq, h0] at a4 a14 a15
    clear afr
    clear hO hni hxc
    obtain ⟨c, x, ids, hw, hok1, hO, hnd, hver, hlt, hkM, hrun⟩ := aI0
    have hxc : x.cell = true := by
      rcases hO with ⟨_, rfl, _⟩ | ⟨_, _, _, rfl, _⟩ <;> rfl
    simp only [AV.cell] at hxc
    obtain ⟨args', hfa, hE⟩ := iEvO_v (temp := temp) hok1 hO
    have hk : (k : Int) < ((steps.toNat + 1 : Nat) : Int) := by omega
    have nexta : ∀ {e : Env} {gg : Rows} {nx : Nat}, (e 16 = .int .i64 (IntKind.i64.wrap ((k : Int) + 1))) → (∃ c x ids, gg ⟨25006005, σ1.next⟩ = some ⟨true, 4, [[.sl (s.g_Glues.map eGlue), .sl (s.g_Tiles.map eTile), .int .i64 temp, x]]⟩ ∧ CellsOk s c ∧ CellsO gg x c ids ∧ ids.Nodup ∧ (∀ i ∈ ids, i.ver < nx ∧ i.ver ≠ σ1.next) ∧ σ1.next < nx ∧ (k + 1) ≤ steps.toNat ∧ runN s temp sch steps.toNat 0 cells = runN s temp sch (steps.toNat - (k + 1)) (k + 1) c) → ∃ m0, m0 < (steps.toNat + 1) - k ∧ ∃ k : Nat, m0 = (steps.toNat + 1) - k ∧ k ≤ (steps.toNat + 1) ∧ e 16 = .int .i64 (k : Int) ∧ (∃ c x ids, gg ⟨25006005, σ1.next⟩ = some ⟨true, 4, [[.sl (s.g_Glues.map eGlue), .sl (s.g_Tiles.map eTile), .int .i64 temp, x]]⟩ ∧ CellsOk s c ∧ CellsO gg x c ids ∧ ids.Nodup ∧ (∀ i ∈ ids, i.ver < nx ∧ i.ver ≠ σ1.next) ∧ σ1.next < nx ∧ k ≤ steps.toNat ∧ runN s temp sch steps.toNat 0 cells = runN s temp sch (steps.toNat - k) k c) := fun x1 x2 => ⟨_, by omega, k + 1, rfl, by omega, (by rw [x1, wrap_succ2 (by omega)]), x2⟩
    (try ((repeat (revert hN; revert N; apply Pn.out)); refine wk (tw @a16 (tw @a4 (tw @a14 (tw @a15 (tw @hw @hxc))))) ?_; (repeat (refine Pn.mk ?_; intro N hN))))
    refine .inl ⟨_, RetS.x hE hfa, ?_⟩
    refine hN _ _ ?_
    clear hN N
    have hmid : steps.toNat = k ∨ (¬ steps.toNat = k ∧ (evL s temp c).length = 0) ∨ (¬ steps.toNat = k ∧ ¬ (evL s temp c).length = 0) := by omega
    have hstop : (steps.toNat = k ∨ (evL s temp c).length = 0) → RunK (runN s temp sch steps.toNat 0 cells) (.tup [x, .int .i64 (k : Int), .int .i64 0]) ⟨st_a.get, st_a.next⟩ := fun h => by
      have he : runN s temp sch (steps.toNat - k) k c = (c, k, 0) := by
        rcases h with h | h
        · rw [h, Nat.sub_self]; rfl
        · exact run_none h
      rw [hrun, he]
      exact ⟨x, ids, rfl, hO, hnd⟩
    rcases hmid with h1 | ⟨h1, h2⟩ | ⟨h1, h2⟩
    · have h3 : (k : Int) = steps := by omega
      (try ((repeat (revert hN; revert N; apply Pn.out)); refine wk (tw @a16 (tw @a4 (tw @a14 (tw @a15 (tw @hw (tw @hxc @h3)))))) ?_; (repeat (refine Pn.mk ?_; intro N hN))))
      exact retO (.inl rfl) (by simp only [vresL, vres1, go_sem, ↓reduceIte, Nat.reduceEqDiff, Nat.reduceAdd, Nat.reduceSub, Nat.reduceLeDiff, reduceCtorEq, a16, a4, a14, a15]; rfl) (by have := hstop (.inl h1); rw [h3] at this; exact this)
    · have h3 : ¬ (k : Int) = steps := by omega
      have h4 : ((evL s temp c).length : Int) = 0 := by omega
      have hs0 : slN ((evL s temp c).map eEvent) = .nils := by rw [List.length_eq_zero_iff.1 h2]; rfl
      have h5 : ((0 : Nat) : Int) = 0 := rfl
      (try ((repeat (revert hN; revert N; apply Pn.out)); refine wk (tw @a16 (tw @a4 (tw @a14 (tw @a15 (tw @hw (tw @hxc (tw @h3 (tw @hs0 @h5)))))))) ?_; (repeat (refine Pn.mk ?_; intro N hN))))
      exact retO (vs := [_, _, _]) (.inl rfl) (by simp only [vresL, vres1, go_sem, ↓reduceIte, Nat.reduceEqDiff, Nat.reduceAdd, Nat.reduceSub, Nat.reduceLeDiff, reduceCtorEq, a16, a4, a14, a15]) (hstop (.inr h2))
    · have h3 : ¬ (k : Int) = steps := by omega
      have h4 : ¬ ((evL s temp c).length : Int) = 0 := by omega
      have hsel := selN_lt sch k (show 0 < (evL s temp c).length by omega)
      have hge := eA_get hsel
      have hcan := evL_can hok1 ht1 (eA_mem hsel)
      have hs1 := selection1_v sch hb (evL s temp c).length k (by omega)
      have hpos := can_pos ht1 hcan
      have hslL : slN ((evL s temp c).map eEvent) = .sl ((evL s temp c).map eEvent) := by
        unfold slN; rw [if_neg]; intro h; rw [List.map_eq_nil_iff] at h; rw [h] at h2; exact h2 rfl
      rcases hO with ⟨rfl, _, _⟩ | ⟨o, rows, is, rfl, ho, hR, rfl⟩
      · simp at hpos
      rw [show steps.toNat - k = steps.toNat - (k + 1) + 1 by omega, runN, if_neg h2] at hrun
      have hplay := fun σ1 ho hR hv => playO_v s temp c (eA (evL s temp c) (selN sch k (evL s temp c).length)) ht1 hok1 hcan σ1 o rows is ho hR hv
      rw [hslL]
      clear hE hfa hstop hslL
      generalize evL s temp c = L at *
      generalize selN sch k L.length = m at *
      (try ((repeat (revert hN; revert N; apply Pn.out)); refine wk (tw @a16 (tw @a4 (tw @a14 (tw @a15 (tw @hw (tw @h3 @h4)))))) ?_; (repeat (refine Pn.mk ?_; intro N hN))))
      refine w_meet (fun e s' => ∃ wd x2 ids2 n, e 19 = .int .i64 (if fullE c (eA L m) then 4 else 0) ∧ e 18 = .ptr ⟨25013013, n⟩ 0 0 ∧ s'.get ⟨25013013, n⟩ = some ⟨true, 4, [wd]⟩ ∧ st_a.next ≤ n ∧ n < s'.next ∧ wd = (if fullE c (eA L m) then [.nils, .nils, .int .i64 0, .nils] else [.sl (s.g_Glues.map eGlue), .sl (s.g_Tiles.map eTile), .int .i64 temp, x2]) ∧ CellsO s'.get x2 (if fullE c (eA L m) then [] else doE s c (eA L m)) ids2 ∧ ids2.Nodup ∧ (∀ i ∈ ids2, i.ver ≠ n ∧ i.ver ≠ σ1.next ∧ i.ver < s'.next) ∧ s'.get ⟨25006005, σ1.next⟩ = some ⟨true, 4, [[.sl (s.g_Glues.map eGlue), .sl (s.g_Tiles.map eTile), .int .i64 temp, .own o 0 c.length]]⟩ ∧ e 4 = .int .i64 steps ∧ e 14 = .ptr ⟨25006005, σ1.next⟩ 0 0 ∧ e 15 = .fn 99 [.iptr [.sl (sch.map eInt)]] ∧ e 16 = .int .i64 (k : Int)) ?_ ?_
      · rintro e s' ⟨wd, x2, ids2, n, e19, e18, gt, hn1, hn2, hwd, hO2, hnd2, hv2, hw2, e4, e14, e15, e16⟩
        refine hN _ _ ?_
        clear hN N
        cases hf : fullE c (eA L m)
        all_goals
          simp only [hf, Bool.false_eq_true, if_true, if_false] at e19 hwd hO2 hrun
          have hxc2 : x2.cell = true := by
            rcases hO2 with ⟨_, rfl, _⟩ | ⟨_, _, _, rfl, _⟩ <;> rfl
          simp only [AV.cell] at hxc2
          subst hwd
          (try ((repeat (revert hN; revert N; apply Pn.out)); refine wk (tw @e4 (tw @e14 (tw @e15 (tw @e16 (tw @e18 (tw @e19 (tw @gt (tw @hw2 @hxc2)))))))) ?_; (repeat (refine Pn.mk ?_; intro N hN))))
        · refine nexta (sd @e16) ⟨doE s c (eA L m), x2, ids2, sd @Nat.zero_add, doE_ok hok1 hcan hf, hO2.frame cellOk fun i hi => ?_, hnd2, fun i hi => ?_, by (try dsimp only); omega, by omega, hrun⟩
          · have h5 := (hv2 i hi).2.1
            have h6 : (i = ⟨25006005, σ1.next⟩) = False := by
              simp only [eq_iff_iff, iff_false]; rintro rfl; exact h5 rfl
            simp only [go_sem, ↓reduceIte, Nat.reduceEqDiff, Nat.reduceAdd, Nat.reduceSub, Nat.reduceLeDiff, reduceCtorEq, h6]
          · have := hv2 i hi; (try dsimp only); omega
        · exact retO (.inl rfl) (by simp only [vresL, vres1, go_sem, ↓reduceIte, Nat.reduceEqDiff, Nat.reduceAdd, Nat.reduceSub, Nat.reduceLeDiff, reduceCtorEq]; rfl) (by rw [hrun]; exact ⟨_, [], rfl, .inl ⟨rfl, rfl, rfl⟩, List.nodup_nil⟩)
      · intro N hN
        have hvo := hver o (by simp)
        cases hf : fullE c (eA L m)
        all_goals
          refine w_both ?_ ?_ <;> (repeat (first | ((repeat (revert hN; revert N; apply Pn.out)); refine wk (tw @a16 (tw @a4 (tw @a14 (tw @a15 (tw @hw (tw @hge @eEvent.eq_1)))))) ?_; (repeat (refine Pn.mk ?_; intro N hN))) | ((try apply Or.inl); refine ⟨_, RetS.x (hs1) (sd (tw @a16 (tw @a4 (tw @a14 (tw @a15 (tw @hw (tw @hge @eEvent.eq_1))))))), ?_⟩; refine hN _ _ ?_; clear hN N))) <;> (try refine w_both ?_ ?_) <;> (repeat (first | ((repeat (revert hN; revert N; apply Pn.out)); refine wk (tw @a16 (tw @a4 (tw @a14 (tw @a15 (tw @hw (tw @hge @eEvent.eq_1)))))) ?_; (repeat (refine Pn.mk ?_; intro N hN))) | ((try apply Or.inl); refine ⟨_, RetS.x (hs1) (sd (tw @a16 (tw @a4 (tw @a14 (tw @a15 (tw @hw (tw @hge @eEvent.eq_1))))))), ?_⟩; refine hN _ _ ?_; clear hN N))) <;> (try refine w_both ?_ ?_) <;> (repeat (first | ((repeat (revert hN; revert N; apply Pn.out)); refine wk (tw @a16 (tw @a4 (tw @a14 (tw @a15 (tw @hw (tw @hge @eEvent.eq_1)))))) ?_; (repeat (refine Pn.mk ?_; intro N hN))) | ((try apply Or.inl); refine ⟨_, RetS.x (hs1) (sd (tw @a16 (tw @a4 (tw @a14 (tw @a15 (tw @hw (tw @hge @eEvent.eq_1))))))), ?_⟩; refine hN _ _ ?_; clear hN N)))
        all_goals
          refine .inr (Call_mono _ _ _ _ _ (fun r σ2 hq => ?_) (hplay _ (sd (tw (vne hvo.1) @ho)) (hR.frame cellOk fun i hi => sd (vne (hver i (by simp [hi])).1)) (fun i hi => by have := (hver i hi).1; (try dsimp only); omega)))
          obtain ⟨wd, x2, ids2, rfl, hwd, hO2, hni, hk1, hk2⟩ := hq
          have f1 := hk2 ⟨25006005, σ1.next⟩ (by (try dsimp only); omega)
          have f2 := hk2 ⟨25013013, st_a.next + 1 + 1⟩ (by (try dsimp only); omega)
          simp only [] at hk1 hni
          simp only [go_sem, ↓reduceIte, Nat.reduceEqDiff, Nat.reduceAdd, Nat.reduceSub, Nat.reduceLeDiff, reduceCtorEq, hw] at f1 f2
          simp only [hf, Bool.false_eq_true, if_true, if_false] at hwd hO2 ⊢
          have hxc2 : x2.cell = true := by
            rcases hO2 with ⟨_, rfl, _⟩ | ⟨_, _, _, rfl, _⟩ <;> rfl
          simp only [AV.cell] at hxc2
          subst hwd
          refine hN _ _ ?_
          clear hN N
          (try ((repeat (revert hN; revert N; apply Pn.out)); refine wk (tw @a16 (tw @a4 (tw @a14 (tw @a15 (tw @f1 (tw @f2 @hxc2)))))) ?_; (repeat (refine Pn.mk ?_; intro N hN))))
          have hne : ∀ i ∈ ids2, (i = ⟨25013013, st_a.next + 1 + 1⟩) = False := fun i hi => (ver_ne (a := ⟨25013013, st_a.next + 1 + 1⟩) (b := i) (by have := (hni.2 i hi).1; (try dsimp only); omega)).2
          simp only [hf, Bool.false_eq_true, if_true, if_false]
          exact ⟨_, x2, ids2, _, sd @Nat.zero_add, by (simp only [go_sem, ↓reduceIte, Nat.reduceEqDiff, Nat.reduceAdd, Nat.reduceSub, Nat.reduceLeDiff, reduceCtorEq]) <;> rfl, sd @Nat.zero_add, by omega, by (try dsimp only); omega, rfl, hO2.frame cellOk fun i hi => sd (tw (hne i hi) (vne (hni.2 i hi).2)), hni.1, fun i hi => by have := hni.2 i hi; (try dsimp only); omega, sd @f1, sd (tw @a16 (tw @a4 (tw @a14 @a15))), sd (tw @a16 (tw @a4 (tw @a14 @a15))), sd (tw @a16 (tw @a4 (tw @a14 @a15))), sd (tw @a16 (tw @a4 (tw @a14 @a15)))⟩
  · have hp : runA s temp cells sch steps = ([], 0, askN s temp cells) := by simp [runA, h0]
    rw [hp]
    (repeat (first | ((repeat (revert hN; revert N; apply Pn.out)); refine wk (tw @h0 @eSet.eq_1) ?_; (repeat (refine Pn.mk ?_; intro N hN))) | ((try apply Or.inl); refine ⟨_, RetS.x (hask) (sd (tw @h0 @eSet.eq_1)), ?_⟩; refine hN _ _ ?_; clear hN N)))
    exact retO (.inl rfl) (by simp only [vresL, vres1, go_sem, ↓reduceIte, Nat.reduceEqDiff, Nat.reduceAdd, Nat.reduceSub, Nat.reduceLeDiff, reduceCtorEq]; rfl) ⟨_, [], rfl, .inl ⟨rfl, rfl, rfl⟩, List.nodup_nil⟩


theorem sEv_v (s : D_SignalSet) (temp : Int) (cells : List D_SignalCell) (hok : CellsOk s cells) : RetS Tryz.prog 32 [.iptr (eSet s), .int .i64 temp, .sl (cells.map eCell)] (.sl ((evL s temp cells).map eEvent)) := by
  obtain ⟨ps, hR, hP⟩ := pts_exists cells
  rw [← evL_eq hR hP]
  exact l31EventsS_v s temp cells hok.set.form hok.set.ssides hok.form hok.few hok.tiles hok.six hok.idx ps hR hP

set_option maxRecDepth 100000 in
set_option maxHeartbeats 4000000 in
theorem l31Run_v (s : D_SignalSet) (temp : Int) (cells : List D_SignalCell) (sch : List Int) (M : Nat) (hok : CellsOk s cells) (ht : 1 ≤ temp) (hsch : schB sch = true) (hM : M ≤ 1000) (σ : Store) (sid : Id) (hv : sid.ver < σ.next) (hs : σ.get sid = some ⟨true, 2, [eSet s]⟩) :
    Call Tryz.prog 54 [.ptr sid 0 0, .int .i64 temp, .sl (cells.map eCell), .sl (sch.map eInt), .int .i64 (M : Int)] σ (RunK (runN s temp sch M 0 cells)) := by
  refine CallB cfE rfl fun hl => ?_
  clear hl
  have hb : ∀ c ∈ cells, c.g_On.length ≤ 6 ∧ c.g_Bound.length ≤ 6 ∧ c.g_Fired.length ≤ 6 := fun c hcm => by
    have f := hok.form c hcm
    have h6 := hok.six c hcm
    have := f.on; have := f.bound
    omega
  (try ((repeat (revert hN; revert N; apply Pn.out)); refine wk @Nat.zero_add ?_; (repeat (refine Pn.mk ?_; intro N hN))))
  refine .inr ?_
  refine Call_mono _ _ _ _ _ (fun r σ1 hq => ?_) (l31Own_v cells hok.few hb _)
  obtain ⟨ids, ⟨aid, rows, is, rfl, ho, hR, rfl⟩, hni, hk⟩ := hq
  have f1 := hk.2 sid (by (try dsimp only); omega)
  have hk1 := hk.1
  simp only [] at hk1 hni f1
  refine hN _ _ ?_
  clear hN N
  (try ((repeat (revert hN; revert N; apply Pn.out)); refine wk @f1 ?_; (repeat (refine Pn.mk ?_; intro N hN))))
  refine w_loopF (fun n env st => ∃ k : Nat, n = (M) - k ∧ k ≤ (M) ∧ env 14 = .int .i64 (k : Int) ∧ (∃ c o rows is, env 13 = .own o 0 c.length ∧ CellsOk s c ∧ st.get o = some ⟨true, 6, rows⟩ ∧ RowsN CellO st.get rows c is ∧ (o :: is).Nodup ∧ (∀ i ∈ o :: is, σ.next ≤ i.ver ∧ i.ver < st.next) ∧ σ.next ≤ st.next ∧ st.get sid = some ⟨true, 2, [eSet s]⟩ ∧ runN s temp sch M 0 cells = runN s temp sch (M - k) k c)) (M) ⟨0, by omega, by omega, by (try simp only [go_sem, ↓reduceIte, Nat.reduceEqDiff, Nat.reduceAdd, Nat.reduceSub, Nat.reduceLeDiff, reduceCtorEq, f1]); try rfl, ⟨cells, aid, rows, is, sd @Nat.zero_add, hok, ho, hR, hni.1, fun i hi => (by have := hni.2 i hi; (try dsimp only); omega), by (try dsimp only); omega, f1.trans hs, rfl⟩⟩ ?_
  rintro n_a env_a st_a ⟨k, rfl, ale, a14, aI0⟩ afr
  have a0 := afr 0 (by kernel_rfl); have a1 := afr 1 (by kernel_rfl); have a3 := afr 3 (by kernel_rfl); have a4 := afr 4 (by kernel_rfl)
  simp only [go_sem, ↓reduceIte, Nat.reduceEqDiff, Nat.reduceAdd, Nat.reduceSub, Nat.reduceLeDiff, reduceCtorEq, f1] at a0 a1 a3 a4
  clear afr
  obtain ⟨c, o, rw0, is0, a13, hok1, ho, hR, hnd, hver, hle, hsid, hrun⟩ := aI0
  clear hni hk1 hk f1
  have hvs : sid.ver < st_a.next := by omega
  have hsne : sid ∉ o :: is0 := fun h => by have := hver _ h; omega
  by_cases hk : (k : Int) < (M : Int)
  · have nexta : ∀ {e : Env} {gg : Rows} {nx : Nat}, (e 14 = .int .i64 (IntKind.i64.wrap ((k : Int) + 1))) → (∃ c o rows is, e 13 = .own o 0 c.length ∧ CellsOk s c ∧ gg o = some ⟨true, 6, rows⟩ ∧ RowsN CellO gg rows c is ∧ (o :: is).Nodup ∧ (∀ i ∈ o :: is, σ.next ≤ i.ver ∧ i.ver < nx) ∧ σ.next ≤ nx ∧ gg sid = some ⟨true, 2, [eSet s]⟩ ∧ runN s temp sch M 0 cells = runN s temp sch (M - (k + 1)) (k + 1) c) → ∃ m0, m0 < (M) - k ∧ ∃ k : Nat, m0 = (M) - k ∧ k ≤ (M) ∧ e 14 = .int .i64 (k : Int) ∧ (∃ c o rows is, e 13 = .own o 0 c.length ∧ CellsOk s c ∧ gg o = some ⟨true, 6, rows⟩ ∧ RowsN CellO gg rows c is ∧ (o :: is).Nodup ∧ (∀ i ∈ o :: is, σ.next ≤ i.ver ∧ i.ver < nx) ∧ σ.next ≤ nx ∧ gg sid = some ⟨true, 2, [eSet s]⟩ ∧ runN s temp sch M 0 cells = runN s temp sch (M - k) k c) := fun x1 x2 => ⟨_, by omega, k + 1, rfl, by omega, (by rw [x1, wrap_succ2 (by omega)]), x2⟩
    have hE := sEv_v s temp c hok1
    have hfz := fz_rows hR ho
    have hfs : V.fz (rw_ st_a.get) 6 (.ptr sid 0 0) = some (.iptr (eSet s)) := by
      rw [fz_ptrE]; simp only [go_sem, ↓reduceIte, Nat.reduceEqDiff, Nat.reduceAdd, Nat.reduceSub, Nat.reduceLeDiff, reduceCtorEq, hsid, eSet]
    have hM : M - k = M - (k + 1) + 1 := by omega
    (try ((repeat (revert hN; revert N; apply Pn.out)); refine wk (tw @a14 (tw @a0 (tw @a1 (tw @a3 (tw @a4 (tw @a13 @hk)))))) ?_; (repeat (refine Pn.mk ?_; intro N hN))))
    refine .inl ⟨_, RetS.x hE (by simp only [fzRow_cons, fzRow_nil, hfs, fz_int, hfz]; rfl), ?_⟩
    refine hN _ _ ?_
    clear hN N
    by_cases h0 : (evL s temp c).length = 0
    · have h1 : ((evL s temp c).length : Int) = 0 := by omega
      rw [run_none h0] at hrun
      (try ((repeat (revert hN; revert N; apply Pn.out)); refine wk (tw @a14 (tw @a0 (tw @a1 (tw @a3 (tw @a4 (tw @a13 (tw @hk @h1))))))) ?_; (repeat (refine Pn.mk ?_; intro N hN))))
      exact retO (.inl rfl) (by simp only [vresL, vres1, go_sem, ↓reduceIte, Nat.reduceEqDiff, Nat.reduceAdd, Nat.reduceSub, Nat.reduceLeDiff, reduceCtorEq, a13, a14, a0, a1, a3, a4]; rfl) (by rw [hrun]; exact ⟨_, _, rfl, .inr ⟨o, rw0, is0, rfl, ho, hR, rfl⟩, hnd⟩)
    have h1 : ¬ ((evL s temp c).length : Int) = 0 := by omega
    have hsel := selN_lt sch k (show 0 < (evL s temp c).length by omega)
    have hge := eA_get hsel
    have hcan := evL_can hok1 ht (eA_mem hsel)
    have hdo := fun (n : Nat) (hn : st_a.next ≤ n) => l31Do_v s temp c (eA (evL s temp c) (selN sch k (evL s temp c).length)) hok1 hcan ⟨st_a.get, n⟩ sid (by (try dsimp only); omega) hsid o rw0 is0 ho hR hnd (fun i hi => by have := (hver i hi).2; (try dsimp only); omega) hsne
    rw [hM, runN, if_neg h0] at hrun
    have hsl : ∀ h : ¬ sch.length = 0, ((sch.length : Int) = 0) = False ∧ (k : Int).tmod (sch.length : Int) = ((k % sch.length : Nat) : Int) ∧ (sch.map eInt)[k % sch.length]? = some [.int .i64 (schAt sch k)] ∧ (schAt sch k).tmod ((evL s temp c).length : Int) = ((selN sch k (evL s temp c).length : Nat) : Int) := fun h => by
      obtain ⟨k1, k2, _⟩ := sch_ok hsch (by omega) k
      refine ⟨by simp only [eq_iff_iff, iff_false]; omega, by rw [Int.tmod_eq_emod_of_nonneg (by omega)]; rfl, by rw [List.getElem?_map, schAt, List.getD_eq_getElem?_getD, List.getElem?_eq_getElem k1]; rfl, ?_⟩
      rw [selN, if_neg h, Int.tmod_eq_emod_of_nonneg k2, Int.toNat_of_nonneg (Int.emod_nonneg _ (by omega))]
    have hs0 : sch.length = 0 → selN sch k (evL s temp c).length = 0 := fun h => by rw [selN, if_pos h]
    generalize evL s temp c = L at *
    generalize selN sch k L.length = m at *
    (try ((repeat (revert hN; revert N; apply Pn.out)); refine wk (tw @a14 (tw @a0 (tw @a1 (tw @a3 (tw @a4 (tw @a13 (tw @hk @h1))))))) ?_; (repeat (refine Pn.mk ?_; intro N hN))))
    refine w_meet (fun e s => ∃ n, s = ⟨st_a.get, n⟩ ∧ st_a.next ≤ n ∧ e 0 = .ptr sid 0 0 ∧ e 1 = .int .i64 temp ∧ e 3 = .sl (sch.map eInt) ∧ e 4 = .int .i64 (M : Int) ∧ e 14 = .int .i64 (k : Int) ∧ e 13 = .own o 0 c.length ∧ e 15 = .sl (L.map eEvent) ∧ e 16 = .int .i64 (m : Int)) ?_ ?_
    · rintro e _ ⟨n, rfl, hn, y0, y1, y3, y4, y14, y13, e15, e16⟩
      refine hN _ _ ?_
      clear hN N
      (try ((repeat (revert hN; revert N; apply Pn.out)); refine wk (tw @y0 (tw @y1 (tw @y3 (tw @y4 (tw @y14 (tw @y13 (tw @e15 (tw @e16 (tw @hge @eEvent.eq_1))))))))) ?_; (repeat (refine Pn.mk ?_; intro N hN))))
      refine .inr (Call_mono _ _ _ _ _ (fun r σ' hq => ?_) (hdo _ (by omega)))
      obtain ⟨x, ids2, rfl, hW, hnd2, hlt2, hge2, hle2, hk2⟩ := hq
      simp only [] at hge2 hle2 hk2
      have hsid2 := (hk2 sid (by omega) hsne).trans hsid
      cases hf : fullE c (eA L m)
      · simp only [hf, Bool.false_eq_true, if_false] at hW hrun ⊢
        obtain ⟨o2, rw2, is2, rfl, ho2, hR2, rfl⟩ := hW
        refine hN _ _ ?_
        clear hN N
        (try ((repeat (revert hN; revert N; apply Pn.out)); refine wk (tw @y0 (tw @y1 (tw @y3 (tw @y4 (tw @y14 (tw @y13 (tw @e15 @e16))))))) ?_; (repeat (refine Pn.mk ?_; intro N hN))))
        refine nexta (sd @y14) ⟨_, o2, rw2, is2, sd @Nat.zero_add, doE_ok hok1 hcan hf, ho2, hR2, hnd2, fun i hi => ?_, by (try dsimp only); omega, hsid2, hrun⟩
        have h1 := hlt2 i hi
        refine ⟨?_, by (try dsimp only); omega⟩
        rcases hge2 i hi with h | h
        · exact (hver i h).1
        · omega
      · simp only [hf, if_true] at hW hrun ⊢
        refine hN _ _ ?_
        clear hN N
        (try ((repeat (revert hN; revert N; apply Pn.out)); refine wk (tw @y0 (tw @y1 (tw @y3 (tw @y4 (tw @y14 (tw @y13 (tw @e15 @e16))))))) ?_; (repeat (refine Pn.mk ?_; intro N hN))))
        exact retO (.inl rfl) (by simp only [vresL, vres1, go_sem, ↓reduceIte, Nat.reduceEqDiff, Nat.reduceAdd, Nat.reduceSub, Nat.reduceLeDiff, reduceCtorEq]; rfl) (by rw [hrun]; exact ⟨_, [_], rfl, .inr ⟨_, [], [], rfl, sd @Nat.zero_add, .nil, rfl⟩, by simp⟩)
    intro N hN
    by_cases h2 : sch.length = 0
    · have h3 : ¬ (0 : Int) < (sch.length : Int) := by omega
      have h4 := hs0 h2
      (try ((repeat (revert hN; revert N; apply Pn.out)); refine wk (tw @a14 (tw @a0 (tw @a1 (tw @a3 (tw @a4 @h3))))) ?_; (repeat (refine Pn.mk ?_; intro N hN))))
      exact ⟨_, rfl, by omega, sd (tw @a14 (tw @a0 (tw @a1 (tw @a3 @a4)))), sd (tw @a14 (tw @a0 (tw @a1 (tw @a3 @a4)))), sd (tw @a14 (tw @a0 (tw @a1 (tw @a3 @a4)))), sd (tw @a14 (tw @a0 (tw @a1 (tw @a3 @a4)))), sd (tw @a14 (tw @a0 (tw @a1 (tw @a3 @a4)))), sd @a13, sd @Nat.zero_add, by (simp only [go_sem, ↓reduceIte, Nat.reduceEqDiff, Nat.reduceAdd, Nat.reduceSub, Nat.reduceLeDiff, reduceCtorEq, h4]) <;> rfl⟩
    · have h3 : (0 : Int) < (sch.length : Int) := by omega
      obtain ⟨q1, q2, q3, q4⟩ := hsl h2
      (try ((repeat (revert hN; revert N; apply Pn.out)); refine wk (tw @a14 (tw @a0 (tw @a1 (tw @a3 (tw @a4 (tw @h1 (tw @h3 (tw @q1 (tw @q2 (tw @q3 @q4)))))))))) ?_; (repeat (refine Pn.mk ?_; intro N hN))))
      exact ⟨_, rfl, by omega, sd (tw @a14 (tw @a0 (tw @a1 (tw @a3 @a4)))), sd (tw @a14 (tw @a0 (tw @a1 (tw @a3 @a4)))), sd (tw @a14 (tw @a0 (tw @a1 (tw @a3 @a4)))), sd (tw @a14 (tw @a0 (tw @a1 (tw @a3 @a4)))), sd (tw @a14 (tw @a0 (tw @a1 (tw @a3 @a4)))), sd @a13, sd @Nat.zero_add, sd @Nat.zero_add⟩
  · have hkf : k = M := by omega
    subst hkf
    rw [Nat.sub_self, runN] at hrun
    (try ((repeat (revert hN; revert N; apply Pn.out)); refine wk (tw @a14 (tw @a0 (tw @a1 (tw @a3 (tw @a4 (tw @a13 @hk)))))) ?_; (repeat (refine Pn.mk ?_; intro N hN))))
    exact retO (.inl rfl) (by simp only [vresL, vres1, go_sem, ↓reduceIte, Nat.reduceEqDiff, Nat.reduceAdd, Nat.reduceSub, Nat.reduceLeDiff, reduceCtorEq, a13, a14, a0, a1, a3, a4]; rfl) (by rw [hrun]; exact ⟨_, _, rfl, .inr ⟨o, rw0, is0, rfl, ho, hR, rfl⟩, hnd⟩)

set_option maxRecDepth 100000 in
set_option maxHeartbeats 4000000 in
theorem sRunSignals_v (s : D_SignalSet) (temp : Int) (cells : List D_SignalCell) (sch : List Int) (steps : Int) (hs : SmallSet s) (hn : SmallNames s) (σ : Store) :
    Call Tryz.prog 23 [.agg (eSet s), .int .i64 temp, .sl (cells.map eCell), .sl (sch.map eInt), .int .i64 steps] σ (RunK (runA s temp cells sch steps)) := by
  refine CallB cfE rfl fun hl => ?_
  clear hl
  have hask := l31Asked_v s cells temp _ (l31OkAll_v s cells hs hn)
  rw [show (if cellsB s cells then (if inB temp 1 16 then (0 : Int) else 2) else 1) = askN s temp cells from rfl] at hask
  have hsc := l08Schedule_v sch
  by_cases h0 : askN s temp cells = 0
  · obtain ⟨hok, ht⟩ := ask_ok h0
    cases hb : schB sch
    · have hp : runA s temp cells sch steps = ([], 0, 2) := by simp [runA, h0, hb]
      rw [hp]
      (repeat (first | ((repeat (revert hN; revert N; apply Pn.out)); refine wk (tw @h0 (tw @hb @eSet.eq_1)) ?_; (repeat (refine Pn.mk ?_; intro N hN))) | ((try apply Or.inl); refine ⟨_, RetS.x (hask) (sd (tw @h0 (tw @hb @eSet.eq_1))), ?_⟩; refine hN _ _ ?_; clear hN N) | ((try apply Or.inl); refine ⟨_, RetS.x (hsc) (sd (tw @h0 (tw @hb @eSet.eq_1))), ?_⟩; refine hN _ _ ?_; clear hN N)))
      exact retO (.inl rfl) (by simp only [vresL, vres1, go_sem, ↓reduceIte, Nat.reduceEqDiff, Nat.reduceAdd, Nat.reduceSub, Nat.reduceLeDiff, reduceCtorEq]; rfl) ⟨_, [_], rfl, .inr ⟨_, [], [], rfl, sd @Nat.zero_add, .nil, rfl⟩, by simp⟩
    cases hi : inB steps 0 1000
    · have hp : runA s temp cells sch steps = ([], 0, 2) := by simp [runA, h0, hi]
      rw [hp]
      (repeat (first | ((repeat (revert hN; revert N; apply Pn.out)); refine wk (tw @h0 (tw @hb (tw @hi @eSet.eq_1))) ?_; (repeat (refine Pn.mk ?_; intro N hN))) | ((try apply Or.inl); refine ⟨_, RetS.x (hask) (sd (tw @h0 (tw @hb (tw @hi @eSet.eq_1)))), ?_⟩; refine hN _ _ ?_; clear hN N) | ((try apply Or.inl); refine ⟨_, RetS.x (hsc) (sd (tw @h0 (tw @hb (tw @hi @eSet.eq_1)))), ?_⟩; refine hN _ _ ?_; clear hN N) | ((try apply Or.inl); refine ⟨_, Ret.x (l00In_v steps 0 1000) _, ?_⟩; refine hN _ _ ?_; clear hN N)))
      exact retO (.inl rfl) (by simp only [vresL, vres1, go_sem, ↓reduceIte, Nat.reduceEqDiff, Nat.reduceAdd, Nat.reduceSub, Nat.reduceLeDiff, reduceCtorEq]; rfl) ⟨_, [_], rfl, .inr ⟨_, [], [], rfl, sd @Nat.zero_add, .nil, rfl⟩, by simp⟩
    have hst := inB_true hi
    have hp : runA s temp cells sch steps = runN s temp sch steps.toNat 0 cells := by simp [runA, h0, hb, hi]
    rw [hp]
    have he : steps = (steps.toNat : Int) := by omega
    (repeat (first | ((repeat (revert hN; revert N; apply Pn.out)); refine wk (tw @h0 (tw @hb (tw @hi @eSet.eq_1))) ?_; (repeat (refine Pn.mk ?_; intro N hN))) | ((try apply Or.inl); refine ⟨_, RetS.x (hask) (sd (tw @h0 (tw @hb (tw @hi @eSet.eq_1)))), ?_⟩; refine hN _ _ ?_; clear hN N) | ((try apply Or.inl); refine ⟨_, RetS.x (hsc) (sd (tw @h0 (tw @hb (tw @hi @eSet.eq_1)))), ?_⟩; refine hN _ _ ?_; clear hN N) | ((try apply Or.inl); refine ⟨_, Ret.x (l00In_v steps 0 1000) _, ?_⟩; refine hN _ _ ?_; clear hN N)))
    rw [he]
    refine .inr (Call_mono _ _ _ _ _ (fun r σ' hq => ?_) (l31Run_v s temp cells sch steps.toNat hok (inB_true ht).1 hb (by omega) _ ⟨23000000, σ.next⟩ (by (try dsimp only); omega) (sd @eSet.eq_1)))
    obtain ⟨x, ids, rfl, hO, hnd⟩ := hq
    refine hN _ _ ?_
    clear hN N
    (try ((repeat (revert hN; revert N; apply Pn.out)); refine wk @Nat.zero_add ?_; (repeat (refine Pn.mk ?_; intro N hN))))
    exact retO (.inl rfl) (by simp only [vresL, vres1, go_sem, ↓reduceIte, Nat.reduceEqDiff, Nat.reduceAdd, Nat.reduceSub, Nat.reduceLeDiff, reduceCtorEq]; rfl) ⟨x, ids, rfl, hO, hnd⟩
  · have hp : runA s temp cells sch steps = ([], 0, askN s temp cells) := by simp [runA, h0]
    rw [hp]
    (repeat (first | ((repeat (revert hN; revert N; apply Pn.out)); refine wk (tw @h0 @eSet.eq_1) ?_; (repeat (refine Pn.mk ?_; intro N hN))) | ((try apply Or.inl); refine ⟨_, RetS.x (hask) (sd (tw @h0 @eSet.eq_1)), ?_⟩; refine hN _ _ ?_; clear hN N)))
    exact retO (.inl rfl) (by simp only [vresL, vres1, go_sem, ↓reduceIte, Nat.reduceEqDiff, Nat.reduceAdd, Nat.reduceSub, Nat.reduceLeDiff, reduceCtorEq]; rfl) ⟨_, [_], rfl, .inr ⟨_, [], [], rfl, sd @Nat.zero_add, .nil, rfl⟩, by simp⟩

end Go.Proofs.YtpbniieiinhliaaGreat.V
