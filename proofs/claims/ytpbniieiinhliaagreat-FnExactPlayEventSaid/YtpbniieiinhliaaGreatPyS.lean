/- The library's contract of the sort, at points. -/
import Derived.Test.YtpbniieiinhliaaGreatPyQ
import Derived.Test.YtpbniieiinhliaaGreatPyR
import Derived.Test.YtpbniieiinhliaaGreatPyG
import Derived.Test.YtpbniieiinhliaaGreatPyP
set_option linter.unusedVariables false
set_option linter.unusedSimpArgs false
namespace Go.Proofs.YtpbniieiinhliaaGreat.V
open Go.RowKit Go.Shelf Go.Lib Go.Sort

def Grown (w w' : World) : Prop := ∃ (q : Nat) (os : Array Obj), w' = Go.Sort.grow (w.drewN q) os
theorem Grown.refl (w : World) : Grown w w := ⟨0, #[], by rw [grow_empty]; rfl⟩
theorem Grown.alloc {w w' : World} (h : Grown w w') (o : Obj) : Grown w (w'.alloc o) := by
  obtain ⟨q, os, rfl⟩ := h
  exact ⟨q, os ++ #[o], by rw [alloc_eq_grow, grow_grow]⟩
theorem Grown.drew {w w' : World} (h : Grown w w') : Grown w w'.drew := by
  obtain ⟨q, os, rfl⟩ := h
  exact ⟨q + 1, os, by rw [drew_grow]; rfl⟩
theorem Grown.dN {w w' : World} (h : Grown w w') (n : Nat) : Grown w (w'.drewN n) := by
  obtain ⟨q, os, rfl⟩ := h
  exact ⟨q + n, os, by
    show Go.Sort.grow ((w.drewN q).drewN n) os = Go.Sort.grow (w.drewN (q + n)) os
    simp [World.drewN, Nat.add_assoc]⟩

set_option maxRecDepth 100000 in
set_option maxHeartbeats 400000 in
theorem comparePoints_g (w : World) (a b : D_Point) : Calls Tryz.prog 92 #[.agg #[.int .i64 a.g_X, .int .i64 a.g_Y], .agg #[.int .i64 b.g_X, .int .i64 b.g_Y]] w fun e w' => e = .returned (.int .i64 (cmpP a b)) ∧ Grown w w' := by
  go_enter Tryz.func92, Tryz.ntmps92
  go_wp2_with fail
  go_region_held3 (fun w' => w'.cell? ⟨w.heap.size, 0, none⟩ = some (.int .i64 a.g_X) ∧ w'.cell? ⟨w.heap.size, 1, none⟩ = some (.int .i64 a.g_Y) ∧
      w'.cell? ⟨w.heap.size + 1, 0, none⟩ = some (.int .i64 b.g_X) ∧ w'.cell? ⟨w.heap.size + 1, 1, none⟩ = some (.int .i64 b.g_Y))
    (first | go_keep)
    (first | (go_at_call 123; refine (compare_any _ _ _).mono ?_; rintro e w' ⟨rfl, rfl⟩) | (go_at_call 122; refine (or2_any _ (cmp1 a.g_Y b.g_Y) (cmp1 a.g_X b.g_X) _ (by simp [go_sem]) (by simp [go_sem])).mono ?_; rintro e w' ⟨rfl, rfl⟩))
  go_wp2_with fail
  go_ret
  refine ⟨rfl, ?_⟩
  repeat (first | (with_reducible exact Grown.refl _) | (refine Grown.alloc ?_ _) | (refine Grown.drew ?_) | (refine Grown.dN ?_ _))

theorem swoP : SWO (ltOf cmpP) where
  irrefl x := by rw [ltOf, cmpP_lt]; exact ltB_irr
  trans x y z h1 h2 := by rw [ltOf, cmpP_lt] at *; exact ltB_trans h1 h2
  ntrans x y z h1 h2 := by rw [ltOf, cmpP_lt] at *; rw [ltB_false] at *; omega

theorem sortC : SortC := fun blk off cap d w hH hblk hsz => by
  have eg : ∀ args w, (callFunc 92 args).run Tryz.prog w = .ok (.enter 92 args) w := enters_of Tryz.func92 (by kernel_rfl) rfl
  have h := AnyQ.slices_SortFunc Tryz.sortPt 2 Tryz.isAgg52 Tryz.sizeOf52 enc_Point (fun _ => rfl) (fun x v hv => by simp [enc_Point] at hv; rcases hv with rfl | rfl <;> rfl) cmpP swoP 92 #[] blk off cap d w eg (fun m os dk _ x y => (comparePoints_g _ x y).mono fun _ _ ⟨he, q, os', hw⟩ => ⟨he, q, os', hw⟩) hH hblk hsz
  exact h
theorem sortN : SortN := fun p cap fv w => AnyF.slices_SortFunc_none Tryz.sortPt p cap fv w

end Go.Proofs.YtpbniieiinhliaaGreat.V

namespace Go.Proofs.YtpbniieiinhliaaGreat.V
open Go.RowKit
attribute [local irreducible] wpv wpOps PCx Call
attribute [local go_sem] wantedV vop qop eop vis evO upd envOf K.av boxOf AV.cells AV.cell rowOf rowsOf part ld rowAt setR killR ibin vbin vsh vclear vsbin sbin eq1 eqL xorB vnil vnilS vnilF hiOf loOf vslice vsliceS viaddr vidxS vidxA vlen vnot vneg vconv vconvS vpick vchk vfield vextract vlenS fillV vmk rowsIn putCs vstore vappend seqQ blockQ most AV.undef callW locP locQ List.getD_cons_zero List.getD_cons_succ List.getD_nil List.all_cons List.all_nil Bool.and_true Bool.true_and Bool.and_self Bool.not_true Bool.not_false Option.map_some Option.map_none Option.bind_some Option.bind_none List.length_cons List.length_nil List.take_succ_cons List.take_zero List.take_nil List.drop_succ_cons List.drop_zero List.drop_nil List.head?_cons List.map_cons List.map_nil List.getElem?_cons_zero List.getElem?_cons_succ List.cons_append List.nil_append List.append_nil List.length_map List.set_cons_zero List.set_cons_succ Nat.reduceMul eq_self Int.toNat_natCast Int.natCast_nonneg and_self true_and and_true decide_true decide_false Bool.false_eq_true Nat.zero_add Nat.add_zero List.contains_cons List.contains_nil Bool.or_false Bool.false_or beq_self_eq_true Nat.reduceBEq ne_eq not_true_eq_false not_false_eq_true Id.mk.injEq false_and and_false Nat.reduceLT Int.reduceLE Int.reduceLT Int.reduceToNat Int.reduceNeg Int.reduceAdd Nat.le_refl List.length_append beq_true beq_false Bool.not_eq_eq_eq_not or_false false_or rw_ fzRow_cons fzRow_nil fz_int fz_bool fz_str fz_sl fz_nils fz_agg fz_iptr fz_ptrE fz_fn


theorem fzS_ev (g : Rows) (n : Nat) (x : D_SignalEvent) : fzSRow g (n + 1) (eEvent x) = some (eEvent x) := by simp [eEvent, fzSRow_cons, fzSRow_nil, fzS_int]
theorem iEventsS_v (s : D_SignalSet) (temp : Int) (cells : List D_SignalCell) (hok : CellsOk s cells) : ∃ ps, Ris ps ∧ (∀ x, x ∈ ps ↔ nearN cells cells.length 0 x) ∧ RetS Tryz.prog 37 [.agg (eWorld s temp cells)] (slN ((eventsL s temp cells ps).map eEvent)) := by
  obtain ⟨qs, hR, hm⟩ := ris_exists (arL cells cells.length)
  refine ⟨qs.filter (goodB cells), List.Pairwise.sublist List.filter_sublist hR, fun x => ?_, fun n => ?_⟩
  · rw [List.mem_filter, hm, arL_mem _ (Nat.le_refl _), goodB_iff, nearN]
    constructor
    · rintro ⟨h1, h2⟩; exact ⟨h2, .inl h1⟩
    · rintro ⟨h1, h2 | ⟨d, hd, _⟩⟩
      · exact ⟨h2, h1⟩
      · omega
  · refine Call_mono _ _ _ _ _ (fun r σ' hq => ?_) (iEvents_v sortC sortN s temp cells hok qs hR hm _)
    rw [endI_eq] at hq
    rcases hq with ⟨h1, rfl⟩ | ⟨o, _, hp, rfl, hg⟩
    · exact ⟨_, fzS_nils _ _, by rw [h1]; rfl⟩
    · refine ⟨_, fzS_own_map hg rfl (fun x => fzS_ev _ 4 x), ?_⟩
      unfold slN
      rw [if_neg]
      intro h
      rw [List.map_eq_nil_iff] at h
      rw [h] at hp; simp at hp

theorem ev_eq (a b : D_SignalEvent) : (decide (a.g_Kind = b.g_Kind) && (decide (a.g_At.g_X = b.g_At.g_X) && (decide (a.g_At.g_Y = b.g_At.g_Y) && decide (a.g_Num = b.g_Num)))) = decide (a = b) := by
  obtain ⟨k, ⟨x, y⟩, n⟩ := a
  obtain ⟨k', ⟨x', y'⟩, n'⟩ := b
  rw [Bool.eq_iff_iff]
  simp [and_assoc]

set_option maxRecDepth 100000 in
set_option maxHeartbeats 4000000 in
theorem indexEv_v (L : List D_SignalEvent) (ev : D_SignalEvent) : ∃ z : Int, (0 ≤ z ↔ ev ∈ L) ∧ RetS Tryz.prog 88 [slN (L.map eEvent), .agg (eEvent ev)] (.int .i64 z) := by
  have key : ∀ m : Nat, m ≤ L.length → (∀ j (hj : j < L.length), j < m → ¬ ev = L[j]) → (∀ hm : m < L.length, ev = L[m]) → RetS Tryz.prog 88 [slN (L.map eEvent), .agg (eEvent ev)] (.int .i64 (if m < L.length then (m : Int) else -1)) := by
    intro m hm hb ha
    refine RetS.body cf88 rfl fun hl n0 => ?_
    try simp only [q]
    by_cases hL : L = []
    · subst hL
      have hs : slN (([] : List D_SignalEvent).map eEvent) = .nils := rfl
      rw [hs] at hl ⊢
      clear hl
      (try ((repeat (revert hN; revert N; apply Pn.out)); refine wk @eEvent.eq_1 ?_; (repeat (refine Pn.mk ?_; intro N hN))))
      refine w_loopF (fun n env st => ∃ k : Nat, n = (0) - k ∧ k ≤ (0) ∧ env 8 = .int .i64 (k : Int)) (0) ⟨0, by omega, by omega, by (try simp only [go_sem, ↓reduceIte, Nat.reduceEqDiff, Nat.reduceAdd, Nat.reduceSub, Nat.reduceLeDiff, reduceCtorEq]); try rfl⟩ ?_
      rintro n_a env_a st_a ⟨k, rfl, ale, a8⟩ afr
      have a7 := afr 7 (by kernel_rfl)
      simp only [go_sem, ↓reduceIte, Nat.reduceEqDiff, Nat.reduceAdd, Nat.reduceSub, Nat.reduceLeDiff, reduceCtorEq] at a7
      clear afr
      have hk : ¬ (k : Int) < ((0 : Nat) : Int) := by omega
      (try ((repeat (revert hN; revert N; apply Pn.out)); refine wk (tw @a8 (tw @a7 @hk)) ?_; (repeat (refine Pn.mk ?_; intro N hN))))
      exact ret1Si (b := -1) (.inl rfl) (sd @Nat.zero_add) (by simp)
    · have hs : slN (L.map eEvent) = .sl (L.map eEvent) := by
        unfold slN; rw [if_neg]; simpa using hL
      rw [hs] at hl ⊢
      have hnl : L.length ≤ 9223372036854775807 := by simpa using (hl (.sl (L.map eEvent)) (by simp)).len
      clear hl
      (try ((repeat (revert hN; revert N; apply Pn.out)); refine wk @eEvent.eq_1 ?_; (repeat (refine Pn.mk ?_; intro N hN))))
      refine w_loopF (fun n env st => ∃ k : Nat, n = (L.length) - k ∧ k ≤ (L.length) ∧ env 8 = .int .i64 (k : Int) ∧ st.get ⟨88000000, n0⟩ = some ⟨true, 4, [eEvent ev]⟩ ∧ (k ≤ m)) (L.length) ⟨0, by omega, by omega, by (try simp only [go_sem, ↓reduceIte, Nat.reduceEqDiff, Nat.reduceAdd, Nat.reduceSub, Nat.reduceLeDiff, reduceCtorEq, eEvent]); try rfl, by (try simp only [go_sem, ↓reduceIte, Nat.reduceEqDiff, Nat.reduceAdd, Nat.reduceSub, Nat.reduceLeDiff, reduceCtorEq, eEvent]); try rfl, Nat.zero_le _⟩ ?_
      rintro n_a env_a st_a ⟨k, rfl, ale, a8, ag0, aI0⟩ afr
      have a0 := afr 0 (by kernel_rfl); have a3 := afr 3 (by kernel_rfl); have a7 := afr 7 (by kernel_rfl)
      simp only [go_sem, ↓reduceIte, Nat.reduceEqDiff, Nat.reduceAdd, Nat.reduceSub, Nat.reduceLeDiff, reduceCtorEq, eEvent] at a0 a3 a7
      clear afr
      by_cases hk : (k : Int) < (L.length : Int)
      · have nexta : ∀ {e : Env} {gg : Rows}, (e 8 = .int .i64 (IntKind.i64.wrap ((k : Int) + 1))) → (gg ⟨88000000, n0⟩ = some ⟨true, 4, [eEvent ev]⟩) → ((k + 1) ≤ m) → ∃ m0, m0 < (L.length) - k ∧ ∃ k : Nat, m0 = (L.length) - k ∧ k ≤ (L.length) ∧ e 8 = .int .i64 (k : Int) ∧ gg ⟨88000000, n0⟩ = some ⟨true, 4, [eEvent ev]⟩ ∧ (k ≤ m) := fun x1 x2 x3 => ⟨_, by omega, k + 1, rfl, by omega, (by rw [x1, wrap_succ2 (by omega)]), x2, x3⟩
        have hi : k < L.length := by omega
        have hgi : (L.map eEvent)[k]? = some (eEvent L[k]) := by simp [hi]
        by_cases hkm : k = m
        · have he := ha (by omega)
          have hq : (decide (ev.g_Kind = L[k].g_Kind) && (decide (ev.g_At.g_X = L[k].g_At.g_X) && (decide (ev.g_At.g_Y = L[k].g_At.g_Y) && decide (ev.g_Num = L[k].g_Num)))) = true := by
            rw [ev_eq]; subst hkm; exact decide_eq_true he
          generalize L[k] = c at *
          (try ((repeat (revert hN; revert N; apply Pn.out)); refine wk (tw @a8 (tw @ag0 (tw @a0 (tw @a3 (tw @a7 (tw @hk (tw @hgi (tw @hq @eEvent.eq_1)))))))) ?_; (repeat (refine Pn.mk ?_; intro N hN))))
          exact ret1Si (b := (k : Int)) (.inl rfl) (sd @Nat.zero_add) (by rw [if_pos (by omega), hkm])
        · have hq : (decide (ev.g_Kind = L[k].g_Kind) && (decide (ev.g_At.g_X = L[k].g_At.g_X) && (decide (ev.g_At.g_Y = L[k].g_At.g_Y) && decide (ev.g_Num = L[k].g_Num)))) = false := by
            rw [ev_eq]; exact decide_eq_false (hb k hi (by omega))
          generalize L[k] = c at *
          (try ((repeat (revert hN; revert N; apply Pn.out)); refine wk (tw @a8 (tw @ag0 (tw @a0 (tw @a3 (tw @a7 (tw @hk (tw @hgi (tw @hq @eEvent.eq_1)))))))) ?_; (repeat (refine Pn.mk ?_; intro N hN))))
          refine nexta ?_ ?_ (by omega)
          all_goals simp only [go_sem, ↓reduceIte, Nat.reduceEqDiff, Nat.reduceAdd, Nat.reduceSub, Nat.reduceLeDiff, reduceCtorEq, a8, ag0, a0, a3, a7, eEvent]
      · (try ((repeat (revert hN; revert N; apply Pn.out)); refine wk (tw @a8 (tw @ag0 (tw @a0 (tw @a3 (tw @a7 @hk))))) ?_; (repeat (refine Pn.mk ?_; intro N hN))))
        exact ret1Si (b := -1) (.inl rfl) (sd @Nat.zero_add) (by rw [if_neg (by omega)])
  by_cases h : ev ∈ L
  · refine ⟨_, ?_, key (L.findIdx fun x => decide (ev = x)) List.findIdx_le_length (fun j hj hlt => ?_) fun hm => ?_⟩
    · have hlt : (L.findIdx fun x => decide (ev = x)) < L.length := List.findIdx_lt_length.2 ⟨ev, h, by simp⟩
      rw [if_pos hlt]
      exact ⟨fun _ => h, fun _ => by omega⟩
    · have := List.not_of_lt_findIdx hlt
      simpa using this
    · have := List.findIdx_getElem (w := hm)
      simpa using this
  · refine ⟨_, ?_, key L.length (Nat.le_refl _) (fun j hj _ he => h (he ▸ List.getElem_mem hj)) fun hm => absurd hm (Nat.lt_irrefl _)⟩
    rw [if_neg (Nat.lt_irrefl _)]
    exact ⟨fun h => by omega, fun h' => absurd h' h⟩

set_option maxRecDepth 100000 in
set_option maxHeartbeats 4000000 in
theorem containsEv_v (L : List D_SignalEvent) (e : D_SignalEvent) : RetS Tryz.prog 49 [slN (L.map eEvent), .agg (eEvent e)] (.bool (decide (e ∈ L))) := by
  refine RetS.body cf49 rfl fun hl n0 => ?_
  try simp only [q]
  clear hl
  obtain ⟨z, hz, hi⟩ := indexEv_v L e
  have hfz : ∀ g n, fz g (n + 1) (slN (L.map eEvent)) = some (slN (L.map eEvent)) := fun g n => by
    unfold slN; split
    · exact fz_nils _ _
    · exact fz_sl _ _ _
  (repeat (first | ((repeat (revert hN; revert N; apply Pn.out)); refine wk (tw @hfz @eEvent.eq_1) ?_; (repeat (refine Pn.mk ?_; intro N hN))) | ((try apply Or.inl); refine ⟨_, RetS.x (hi) (sd (tw @hfz @eEvent.eq_1)), ?_⟩; refine hN _ _ ?_; clear hN N)))
  exact ret1Sb (.inl rfl) (by simp only [go_sem, ↓reduceIte, Nat.reduceEqDiff, Nat.reduceAdd, Nat.reduceSub, Nat.reduceLeDiff, reduceCtorEq]; rfl) (by rw [Bool.eq_iff_iff]; simp [hz])

set_option maxRecDepth 100000 in
set_option maxHeartbeats 4000000 in
theorem iPlayEvent_v (s : D_SignalSet) (temp : Int) (cells : List D_SignalCell) (e : D_SignalEvent) (hs : SmallSet s) (hn : SmallNames s) (σ : Store) :
    Call Tryz.prog 21 [.agg (eSet s), .int .i64 temp, .sl (cells.map eCell), .agg (eEvent e)] σ (CellsK (playA s temp cells e).1 (playA s temp cells e).2) := by
  refine CallB cf21 rfl fun hl => ?_
  try simp only [q]
  clear hl
  have hask := signalCode_v s temp cells hs hn
  by_cases h0 : askN s temp cells = 0
  · obtain ⟨hok, ht⟩ := ask_ok h0
    have ht1 := (inB_true ht).1
    obtain ⟨ps, hR, hP, hev⟩ := iEventsS_v s temp cells hok
    have hmem := mem_events (e := e) hok ht1 hP
    have hcon := containsEv_v (eventsL s temp cells ps) e
    have hfz : ∀ g n, fz g (n + 1) (slN ((eventsL s temp cells ps).map eEvent)) = some (slN ((eventsL s temp cells ps).map eEvent)) := fun g n => by
      unfold slN; split
      · exact fz_nils _ _
      · exact fz_sl _ _ _
    cases hc : canE s temp cells e
    · have hp : playA s temp cells e = ([], 5) := by simp [playA, h0, hc]
      rw [hp]
      have hd : decide (e ∈ eventsL s temp cells ps) = false := decide_eq_false (by rw [hmem, hc]; simp)
      (repeat (first | ((repeat (revert hN; revert N; apply Pn.out)); refine wk (tw @h0 (tw @hd (tw @hfz (tw @eSet.eq_1 (tw @eEvent.eq_1 @eWorld.eq_1))))) ?_; (repeat (refine Pn.mk ?_; intro N hN))) | ((try apply Or.inl); refine ⟨_, RetS.x (hask) (sd (tw @h0 (tw @hd (tw @hfz (tw @eSet.eq_1 (tw @eEvent.eq_1 @eWorld.eq_1)))))), ?_⟩; refine hN _ _ ?_; clear hN N) | ((try apply Or.inl); refine ⟨_, RetS.x (hev) (sd (tw @h0 (tw @hd (tw @hfz (tw @eSet.eq_1 (tw @eEvent.eq_1 @eWorld.eq_1)))))), ?_⟩; refine hN _ _ ?_; clear hN N) | ((try apply Or.inl); refine ⟨_, RetS.x (hcon) (sd (tw @h0 (tw @hd (tw @hfz (tw @eSet.eq_1 (tw @eEvent.eq_1 @eWorld.eq_1)))))), ?_⟩; refine hN _ _ ?_; clear hN N)))
      exact retO (.inl rfl) (by simp only [vresL, vres1, go_sem, ↓reduceIte, Nat.reduceEqDiff, Nat.reduceAdd, Nat.reduceSub, Nat.reduceLeDiff, reduceCtorEq]; rfl) ⟨_, [], rfl, .inl ⟨rfl, rfl, rfl⟩, List.nodup_nil⟩
    · have hp : playA s temp cells e = (if fullE cells e then [] else doE s cells e, if fullE cells e then 4 else 0) := by
        simp only [playA, h0, hc, if_true]
        split <;> rfl
      rw [hp]
      have hd : decide (e ∈ eventsL s temp cells ps) = true := decide_eq_true (by rw [hmem, hc])
      (repeat (first | ((repeat (revert hN; revert N; apply Pn.out)); refine wk (tw @h0 (tw @hd (tw @hfz (tw @eSet.eq_1 (tw @eEvent.eq_1 @eWorld.eq_1))))) ?_; (repeat (refine Pn.mk ?_; intro N hN))) | ((try apply Or.inl); refine ⟨_, RetS.x (hask) (sd (tw @h0 (tw @hd (tw @hfz (tw @eSet.eq_1 (tw @eEvent.eq_1 @eWorld.eq_1)))))), ?_⟩; refine hN _ _ ?_; clear hN N) | ((try apply Or.inl); refine ⟨_, RetS.x (hev) (sd (tw @h0 (tw @hd (tw @hfz (tw @eSet.eq_1 (tw @eEvent.eq_1 @eWorld.eq_1)))))), ?_⟩; refine hN _ _ ?_; clear hN N) | ((try apply Or.inl); refine ⟨_, RetS.x (hcon) (sd (tw @h0 (tw @hd (tw @hfz (tw @eSet.eq_1 (tw @eEvent.eq_1 @eWorld.eq_1)))))), ?_⟩; refine hN _ _ ?_; clear hN N)))
      refine .inr ?_
      refine Call_mono _ _ _ _ _ (fun r σ2 hq => ?_) (play_v s temp cells e ht1 hok hc (.sl (cells.map eCell)) rfl _ (fun σ1 _ => clone_v s temp cells hok.few (fun c hcm => ⟨(hok.form c hcm).on, (hok.form c hcm).bound, hok.six c hcm⟩) σ1))
      obtain ⟨wd, x, ids, rfl, hwd, hO, hni, hk1, hk2⟩ := hq
      simp only [] at hk1 hni
      have hxc : x.cell = true := by
        rcases hO with ⟨_, rfl, _⟩ | ⟨_, _, _, rfl, _⟩ <;> rfl
      simp only [AV.cell] at hxc
      refine hN _ _ ?_
      clear hN N
      cases hf : fullE cells e
      · rw [hf] at hwd hO
        simp only [Bool.false_eq_true, if_false] at hwd hO
        subst hwd
        (try ((repeat (revert hN; revert N; apply Pn.out)); refine wk (tw @hxc @hf) ?_; (repeat (refine Pn.mk ?_; intro N hN))))
        refine retO (.inl rfl) (by simp only [vresL, vres1, go_sem, ↓reduceIte, Nat.reduceEqDiff, Nat.reduceAdd, Nat.reduceSub, Nat.reduceLeDiff, reduceCtorEq]; rfl) ⟨x, ids, by rw [hf]; rfl, ?_, hni.1⟩
        rw [hf]
        exact OwnN.frame cellOk hO fun i hi => by simp only [go_sem, ↓reduceIte, Nat.reduceEqDiff, Nat.reduceAdd, Nat.reduceSub, Nat.reduceLeDiff, reduceCtorEq, vne (hni.2 i hi).2]
      · rw [hf] at hwd hO
        simp only [if_true] at hwd hO
        subst hwd
        (try ((repeat (revert hN; revert N; apply Pn.out)); refine wk (tw @hxc @hf) ?_; (repeat (refine Pn.mk ?_; intro N hN))))
        exact retO (.inl rfl) (by simp only [vresL, vres1, go_sem, ↓reduceIte, Nat.reduceEqDiff, Nat.reduceAdd, Nat.reduceSub, Nat.reduceLeDiff, reduceCtorEq]; rfl) ⟨.nils, [], by rw [hf]; rfl, .inl ⟨by rw [hf]; rfl, rfl, rfl⟩, List.nodup_nil⟩
  · have hp : playA s temp cells e = ([], askN s temp cells) := by simp [playA, h0]
    rw [hp]
    (repeat (first | ((repeat (revert hN; revert N; apply Pn.out)); refine wk (tw @h0 (tw @eSet.eq_1 @eEvent.eq_1)) ?_; (repeat (refine Pn.mk ?_; intro N hN))) | ((try apply Or.inl); refine ⟨_, RetS.x (hask) (sd (tw @h0 (tw @eSet.eq_1 @eEvent.eq_1))), ?_⟩; refine hN _ _ ?_; clear hN N)))
    exact retO (.inl rfl) (by simp only [vresL, vres1, go_sem, ↓reduceIte, Nat.reduceEqDiff, Nat.reduceAdd, Nat.reduceSub, Nat.reduceLeDiff, reduceCtorEq]; rfl) ⟨_, [], rfl, .inl ⟨rfl, rfl, rfl⟩, List.nodup_nil⟩

end Go.Proofs.YtpbniieiinhliaaGreat.V
