/- Points: a copy, and equal neighbours are struck out. -/
import Derived.Test.YtpbniieiinhliaaGreatRnH
import Derived.Test.YtpbniieiinhliaaGreatRnK
import Derived.Test.YtpbniieiinhliaaGreatRnD
import Derived.Shelf.SlSortCmp.WholeK
import Derived.Test.YtpbniieiinhliaaGreatRnO
import Derived.Test.YtpbniieiinhliaaGreatRnB
set_option linter.unusedVariables false
set_option linter.unusedSimpArgs false
namespace Go.Proofs.YtpbniieiinhliaaGreat.V
open Go.RowKit
attribute [local irreducible] wpv wpOps PCx Call
attribute [local go_sem] wantedV vop qop eop vis evO upd envOf K.av boxOf AV.cells AV.cell rowOf rowsOf part ld rowAt setR killR ibin vbin vsh vclear vsbin sbin eq1 eqL xorB vnil vnilS vnilF hiOf loOf vslice vsliceS viaddr vidxS vidxA vlen vnot vneg vconv vconvS vpick vchk vfield vextract vlenS fillV vmk rowsIn putCs vstore vappend seqQ blockQ most AV.undef callW locP locQ List.getD_cons_zero List.getD_cons_succ List.getD_nil List.all_cons List.all_nil Bool.and_true Bool.true_and Bool.and_self Bool.not_true Bool.not_false Option.map_some Option.map_none Option.bind_some Option.bind_none List.length_cons List.length_nil List.take_succ_cons List.take_zero List.take_nil List.drop_succ_cons List.drop_zero List.drop_nil List.head?_cons List.map_cons List.map_nil List.getElem?_cons_zero List.getElem?_cons_succ List.cons_append List.nil_append List.append_nil List.length_map List.set_cons_zero List.set_cons_succ Nat.reduceMul eq_self Int.toNat_natCast Int.natCast_nonneg and_self true_and and_true decide_true decide_false Bool.false_eq_true Nat.zero_add Nat.add_zero List.contains_cons List.contains_nil Bool.or_false Bool.false_or beq_self_eq_true Nat.reduceBEq ne_eq not_true_eq_false not_false_eq_true Id.mk.injEq false_and and_false Nat.reduceLT Int.reduceLE Int.reduceLT Int.reduceToNat Int.reduceNeg Int.reduceAdd Nat.le_refl List.length_append beq_true beq_false Bool.not_eq_eq_eq_not or_false false_or rw_ fzRow_cons fzRow_nil fz_int fz_bool fz_str fz_sl fz_nils fz_agg fz_iptr fz_ptrE fz_fn

set_option maxRecDepth 100000 in
set_option maxHeartbeats 4000000 in
theorem clonePts_v (p : D_Point) (r : List D_Point) (hlen : (p :: r).length ≤ 1048576) (σ : Store) :
    Call Tryz.prog 114 [.sl ((p :: r).map ePoint)] σ fun a σ' => ∃ v, a = .own ⟨114003002, v⟩ 0 (p :: r).length ∧ σ'.get ⟨114003002, v⟩ = some ⟨true, 2, (p :: r).map ePoint⟩ := by
  refine CallB cfE rfl fun hl => ?_
  clear hl
  have h1 : (r.map ePoint).all (fun c => c.length == 2 && c.all AV.cell) = true := all_map fun x => by simp [ePoint, AV.cell]
  have h2 : r.length + 1 ≤ 16777216 := by simp at hlen; omega
  have h3 : ((ePoint p).length == 2 && (ePoint p).all AV.cell) = true := by simp [ePoint, AV.cell]
  (try ((repeat (revert hN; revert N; apply Pn.out)); refine wk (tw @h1 (tw @h2 @h3)) ?_; (repeat (refine Pn.mk ?_; intro N hN))))
  exact retO (vs := [.own ⟨114003002, σ.next + 2⟩ 0 (p :: r).length]) (.inl rfl) (by simp only [vresL, vres1, go_sem, ↓reduceIte, Nat.reduceEqDiff, Nat.reduceAdd, Nat.reduceSub, Nat.reduceLeDiff, reduceCtorEq]) ⟨_, rfl, sd @Nat.zero_add⟩

/-- The first j points without those that equal the one before. -/
def dd (L : List D_Point) : Nat → List D_Point
  | 0 => []
  | j + 1 => if 0 < j ∧ pAt L j = pAt L (j - 1) then dd L j else dd L j ++ [pAt L j]
theorem dd_pos (L : List D_Point) : ∀ j, 0 < j → 0 < (dd L j).length
  | j + 1, _ => by
    rw [dd]
    split
    · rename_i h; exact dd_pos L j h.1
    · simp
theorem dd_mem {L : List D_Point} {x : D_Point} : ∀ j, x ∈ dd L j ↔ ∃ i, i < j ∧ pAt L i = x
  | 0 => by simp [dd]
  | j + 1 => by
    rw [dd]
    split
    · rename_i h
      rw [dd_mem j]
      constructor
      · rintro ⟨i, hi, e⟩; exact ⟨i, by omega, e⟩
      · rintro ⟨i, hi, e⟩
        by_cases hij : i = j
        · subst hij; exact ⟨i - 1, by omega, by rw [← h.2]; exact e⟩
        · exact ⟨i, by omega, e⟩
    · rw [List.mem_append, dd_mem j]
      constructor
      · rintro (⟨i, hi, e⟩ | h)
        · exact ⟨i, by omega, e⟩
        · exact ⟨j, by omega, (List.mem_singleton.1 h).symm⟩
      · rintro ⟨i, hi, e⟩
        by_cases hij : i = j
        · subst hij; exact .inr (List.mem_singleton.2 e.symm)
        · exact .inl ⟨i, by omega, e⟩
theorem dd_ris {L : List D_Point} (hs : ∀ i j : Nat, i < j → j < L.length → ltB (pAt L j) (pAt L i) = false) : ∀ j, j ≤ L.length → Ris (dd L j)
  | 0, _ => List.Pairwise.nil
  | j + 1, hj => by
    have ih := dd_ris hs j (by omega)
    rw [dd]
    split
    · exact ih
    · rename_i hne
      unfold Ris
      rw [List.pairwise_append]
      refine ⟨ih, List.pairwise_singleton _ _, fun a ha b hb => ?_⟩
      rw [List.mem_singleton.1 hb]
      obtain ⟨i, hi, rfl⟩ := (dd_mem j).1 ha
      have h0 : 0 < j := by omega
      have hn : pAt L j ≠ pAt L (j - 1) := fun e => hne ⟨h0, e⟩
      have hlt : ltB (pAt L (j - 1)) (pAt L j) = true := ltB_tri (hs (j - 1) j (by omega) (by omega)) hn
      by_cases hij : i = j - 1
      · subst hij; exact hlt
      · have h1 := hs i (j - 1) (by omega) (by omega)
        by_cases he : pAt L (j - 1) = pAt L i
        · rw [← he]; exact hlt
        · exact ltB_trans (ltB_tri h1 he) hlt

set_option maxRecDepth 100000 in
set_option maxHeartbeats 4000000 in
theorem compact_v (L : List D_Point) (hlen : L.length ≤ 1000000) (σ : Store) (id : Id) (hg : σ.get id = some ⟨true, 2, L.map ePoint⟩) :
    Call Tryz.prog 116 [.own id 0 L.length] σ fun a σ' => ∃ X : List D_Point, a = .own id 0 (dd L L.length).length ∧ σ'.get id = some ⟨true, 2, (dd L L.length ++ X).map ePoint⟩ := by
  refine CallB cfE rfl fun hl => ?_
  clear hl
  by_cases h2 : (L.length : Int) < 2
  · have hd : dd L L.length = L := by
      match L, h2 with
      | [], _ => rfl
      | [a], _ => rfl
      | a :: b :: r, h => simp at h; omega
    (try ((repeat (revert hN; revert N; apply Pn.out)); refine wk @h2 ?_; (repeat (refine Pn.mk ?_; intro N hN))))
    exact retO (vs := [.own id 0 L.length]) (.inl rfl) (by simp only [vresL, vres1, go_sem, ↓reduceIte, Nat.reduceEqDiff, Nat.reduceAdd, Nat.reduceSub, Nat.reduceLeDiff, reduceCtorEq]) ⟨[], by rw [hd]; rfl, by simp only [hd, List.append_nil]; exact hg⟩
  (try ((repeat (revert hN; revert N; apply Pn.out)); refine wk @h2 ?_; (repeat (refine Pn.mk ?_; intro N hN))))
  have hn2 : 2 ≤ L.length := by omega
  refine w_loopF (fun n env st => ∃ k : Nat, n = (L.length - 1) - k ∧ k ≤ (L.length - 1) ∧ env 3 = .int .i64 ((1 + k : Nat) : Int) ∧ (dd L (1 + k) = L.take (1 + k)) ∧ st.get id = some ⟨true, 2, L.map ePoint⟩) (L.length - 1) ⟨0, by omega, by omega, by (try simp only [go_sem, ↓reduceIte, Nat.reduceEqDiff, Nat.reduceAdd, Nat.reduceSub, Nat.reduceLeDiff, reduceCtorEq, hg]); try rfl, by (match L, hn2 with | a :: b :: r, _ => rfl), by (try simp only [go_sem, ↓reduceIte, Nat.reduceEqDiff, Nat.reduceAdd, Nat.reduceSub, Nat.reduceLeDiff, reduceCtorEq, hg]); try rfl⟩ ?_
  rintro n_a env_a st_a ⟨k, rfl, ale, a3, aI0, ag0⟩ afr
  have a0 := afr 0 (by kernel_rfl)
  simp only [go_sem, ↓reduceIte, Nat.reduceEqDiff, Nat.reduceAdd, Nat.reduceSub, Nat.reduceLeDiff, reduceCtorEq, hg] at a0
  clear afr
  have hR : ∀ {q : Nat}, q < L.length → (L.map ePoint)[q]? = some (ePoint (pAt L q)) := fun h => pAt_get h
  by_cases hk : ((1 + k : Nat) : Int) < (L.length : Int)
  · have nexta : ∀ {e : Env} {gg : Rows}, (e 3 = .int .i64 ((1 + (k + 1) : Nat) : Int)) → (dd L (1 + (k + 1)) = L.take (1 + (k + 1))) → (gg id = some ⟨true, 2, L.map ePoint⟩) → ∃ m0, m0 < (L.length - 1) - k ∧ ∃ k : Nat, m0 = (L.length - 1) - k ∧ k ≤ (L.length - 1) ∧ e 3 = .int .i64 ((1 + k : Nat) : Int) ∧ (dd L (1 + k) = L.take (1 + k)) ∧ gg id = some ⟨true, 2, L.map ePoint⟩ := fun x1 x2 x3 => ⟨_, by omega, k + 1, rfl, by omega, x1, x2, x3⟩
    have hkn : 1 + k < L.length := by omega
    have e1 : IntKind.i64.wrap (((1 + k : Nat) : Int) - 1) = (k : Int) := by rw [wrap_id (by omega)]; omega
    have e2 : IntKind.i64.wrap (((1 + k : Nat) : Int) + 1) = ((1 + (k + 1) : Nat) : Int) := by rw [wrap_id (by omega)]; omega
    have g1 := hR hkn
    have g2 := hR (show k < L.length by omega)
    have b2 : (k : Int) < (L.length : Int) := by omega
    have hdd : dd L (1 + k + 1) = if 0 < 1 + k ∧ pAt L (1 + k) = pAt L (1 + k - 1) then dd L (1 + k) else dd L (1 + k) ++ [pAt L (1 + k)] := rfl
    rw [show 1 + k - 1 = k from by omega] at hdd
    cases he : (decide ((pAt L (1 + k)).g_X = (pAt L k).g_X) && decide ((pAt L (1 + k)).g_Y = (pAt L k).g_Y))
    · (try ((repeat (revert hN; revert N; apply Pn.out)); refine wk (tw @a3 (tw @ag0 (tw @a0 (tw @hk (tw @e1 (tw @g1 (tw @g2 (tw @b2 (tw @he @ePoint.eq_1))))))))) ?_; (repeat (refine Pn.mk ?_; intro N hN))))
      rw [pt_eq, decide_eq_false_iff_not] at he
      refine nexta ?_ (by rw [show 1 + (k + 1) = 1 + k + 1 from by omega, hdd, if_neg (fun h => he h.2), aI0, List.take_succ_eq_append_getElem hkn, pAt_eq hkn]) ?_
      all_goals simp only [go_sem, ↓reduceIte, Nat.reduceEqDiff, Nat.reduceAdd, Nat.reduceSub, Nat.reduceLeDiff, reduceCtorEq, a3, ag0, a0, e2]
    · have he2 := he
      rw [pt_eq, decide_eq_true_eq] at he2
      rw [if_pos ⟨by omega, he2⟩, aI0] at hdd
      have hl0 : (dd L (1 + k + 1)).length = 1 + k := by rw [hdd, List.length_take]; omega
      have hr0 : L.map ePoint = (dd L (1 + k + 1) ++ L.drop (dd L (1 + k + 1)).length).map ePoint := by rw [hl0, hdd, List.take_append_drop]
      have b3 : ((1 + k : Nat) : Int) ≤ (L.length : Int) := by omega
      have hr1 : (dd L (1 + k + 1) ++ L.drop (1 + k)).map ePoint = L.map ePoint := by rw [hr0, hl0]
      (try ((repeat (revert hN; revert N; apply Pn.out)); refine wk (tw @a3 (tw @ag0 (tw @a0 (tw @hk (tw @e1 (tw @g1 (tw @g2 (tw @b2 (tw @b3 (tw @he @ePoint.eq_1)))))))))) ?_; (repeat (refine Pn.mk ?_; intro N hN))))
      refine w_loopF (fun n env st => ∃ m : Nat, n = (L.length - (1 + k) - 1) - m ∧ m ≤ (L.length - (1 + k) - 1) ∧ env 5 = .int .i64 ((1 + m : Nat) : Int) ∧ env 3 = .int .i64 ((dd L (1 + k + 1 + m)).length : Int) ∧ ((dd L (1 + k + 1 + m)).length ≤ 1 + k + m) ∧ st.get id = some ⟨true, 2, (dd L (1 + k + 1 + m) ++ L.drop (dd L (1 + k + 1 + m)).length).map ePoint⟩) (L.length - (1 + k) - 1) ⟨0, by omega, by omega, by (try simp only [go_sem, ↓reduceIte, Nat.reduceEqDiff, Nat.reduceAdd, Nat.reduceSub, Nat.reduceLeDiff, reduceCtorEq, a3, ag0, a0, hl0, hr1]); try rfl, by (try simp only [go_sem, ↓reduceIte, Nat.reduceEqDiff, Nat.reduceAdd, Nat.reduceSub, Nat.reduceLeDiff, reduceCtorEq, a3, ag0, a0, hl0, hr1]); try rfl, by (rw [Nat.add_zero, hl0]; omega), by (try simp only [go_sem, ↓reduceIte, Nat.reduceEqDiff, Nat.reduceAdd, Nat.reduceSub, Nat.reduceLeDiff, reduceCtorEq, a3, ag0, a0, hl0, hr1]); try rfl⟩ ?_
      rintro n_b env_b st_b ⟨m, rfl, ble, b5, b3, bI0, bg0⟩ bfr
      have b0 := bfr 0 (by kernel_rfl); have b4 := bfr 4 (by kernel_rfl)
      simp only [go_sem, ↓reduceIte, Nat.reduceEqDiff, Nat.reduceAdd, Nat.reduceSub, Nat.reduceLeDiff, reduceCtorEq, a3, ag0, a0, hl0, hr1] at b0 b4
      clear bfr
      clear hr0 hr1 he ag0
      have hrow : ∀ {q : Nat}, (dd L (1 + k + 1 + m)).length ≤ q → q < L.length → ((dd L (1 + k + 1 + m) ++ L.drop (dd L (1 + k + 1 + m)).length).map ePoint)[q]? = some (ePoint (pAt L q)) := fun {q} h1 h2 => by
        rw [List.getElem?_map, List.getElem?_append_right h1, List.getElem?_drop, show (dd L (1 + k + 1 + m)).length + (q - (dd L (1 + k + 1 + m)).length) = q from by omega, List.getElem?_eq_getElem h2, pAt_eq h2]; rfl
      have hdm : dd L (1 + k + 1 + (m + 1)) = if 0 < 1 + k + 1 + m ∧ pAt L (1 + k + 1 + m) = pAt L (1 + k + 1 + m - 1) then dd L (1 + k + 1 + m) else dd L (1 + k + 1 + m) ++ [pAt L (1 + k + 1 + m)] := rfl
      rw [show 1 + k + 1 + m - 1 = 1 + k + m from by omega] at hdm
      have hKn := dd_pos L (1 + k + 1 + m) (by omega)
      by_cases hm : ((1 + m : Nat) : Int) < ((L.length - (1 + k) : Nat) : Int)
      · have nextb : ∀ {e : Env} {gg : Rows}, (e 5 = .int .i64 ((1 + (m + 1) : Nat) : Int)) → (e 3 = .int .i64 ((dd L (1 + k + 1 + (m + 1))).length : Int)) → ((dd L (1 + k + 1 + (m + 1))).length ≤ 1 + k + (m + 1)) → (gg id = some ⟨true, 2, (dd L (1 + k + 1 + (m + 1)) ++ L.drop (dd L (1 + k + 1 + (m + 1))).length).map ePoint⟩) → ∃ m0, m0 < (L.length - (1 + k) - 1) - m ∧ ∃ m : Nat, m0 = (L.length - (1 + k) - 1) - m ∧ m ≤ (L.length - (1 + k) - 1) ∧ e 5 = .int .i64 ((1 + m : Nat) : Int) ∧ e 3 = .int .i64 ((dd L (1 + k + 1 + m)).length : Int) ∧ ((dd L (1 + k + 1 + m)).length ≤ 1 + k + m) ∧ gg id = some ⟨true, 2, (dd L (1 + k + 1 + m) ++ L.drop (dd L (1 + k + 1 + m)).length).map ePoint⟩ := fun x1 x2 x3 x4 => ⟨_, by omega, m + 1, rfl, by omega, x1, x2, x3, x4⟩
        have f1 : IntKind.i64.wrap (((1 + m : Nat) : Int) - 1) = (m : Int) := by rw [wrap_id (by omega)]; omega
        have f2 : IntKind.i64.wrap (((1 + m : Nat) : Int) + 1) = ((1 + (m + 1) : Nat) : Int) := by rw [wrap_id (by omega)]; omega
        have f3 : (m : Int) < ((L.length - (1 + k) : Nat) : Int) := by omega
        have r1 := hrow (q := 1 + k + (1 + m)) (by omega) (by omega)
        have r2 := hrow (q := 1 + k + m) (by omega) (by omega)
        rw [show 1 + k + 1 + m = 1 + k + (1 + m) from by omega] at *
        generalize hD : dd L (1 + k + (1 + m)) = D at *
        have hK : D.length < L.length := by omega
        have s1 := hrow (q := D.length) (Nat.le_refl _) hK
        have u4 : (D.length : Int) < (L.length : Int) := by omega
        have f4 : IntKind.i64.wrap ((D.length : Int) + 1) = ((D.length + 1 : Nat) : Int) := wrap_succ2 (by omega)
        cases hc : (decide ((pAt L (1 + k + (1 + m))).g_X = (pAt L (1 + k + m)).g_X) && decide ((pAt L (1 + k + (1 + m))).g_Y = (pAt L (1 + k + m)).g_Y))
        · have hc2 := hc
          rw [pt_eq, decide_eq_false_iff_not] at hc2
          rw [if_neg (fun h => hc2 h.2)] at hdm
          have e6 : ((D ++ L.drop D.length).map ePoint).set D.length [.int .i64 (pAt L (1 + k + (1 + m))).g_X, .int .i64 (pAt L (1 + k + (1 + m))).g_Y] = ((D ++ [pAt L (1 + k + (1 + m))]) ++ L.drop (D.length + 1)).map ePoint := by
            have : (D ++ L.drop D.length).set D.length (pAt L (1 + k + (1 + m))) = (D ++ [pAt L (1 + k + (1 + m))]) ++ L.drop (D.length + 1) := by
              rw [List.set_append_right _ _ (Nat.le_refl _), Nat.sub_self, List.drop_eq_getElem_cons hK, List.set_cons_zero, List.append_assoc]; rfl
            rw [← this, ← set_map]; rfl
          (try ((repeat (revert hN; revert N; apply Pn.out)); refine wk (tw @b5 (tw @b3 (tw @bg0 (tw @b0 (tw @b4 (tw @hm (tw @f1 (tw @f3 (tw @r1 (tw @r2 (tw @s1 (tw @u4 (tw @hc (tw @e6 @ePoint.eq_1)))))))))))))) ?_; (repeat (refine Pn.mk ?_; intro N hN))))
          refine nextb ?_ ?_ (by rw [hdm]; simp; omega) ?_
          all_goals simp only [go_sem, ↓reduceIte, Nat.reduceEqDiff, Nat.reduceAdd, Nat.reduceSub, Nat.reduceLeDiff, reduceCtorEq, b5, b3, bg0, b0, b4, f2, f4, hdm, e6, ePoint]
        · have hc2 := hc
          rw [pt_eq, decide_eq_true_eq] at hc2
          rw [if_pos ⟨by omega, hc2⟩] at hdm
          (try ((repeat (revert hN; revert N; apply Pn.out)); refine wk (tw @b5 (tw @b3 (tw @bg0 (tw @b0 (tw @b4 (tw @hm (tw @f1 (tw @f3 (tw @r1 (tw @r2 (tw @s1 (tw @u4 (tw @hc @ePoint.eq_1))))))))))))) ?_; (repeat (refine Pn.mk ?_; intro N hN))))
          refine nextb ?_ ?_ (by rw [hdm]; omega) ?_
          all_goals simp only [go_sem, ↓reduceIte, Nat.reduceEqDiff, Nat.reduceAdd, Nat.reduceSub, Nat.reduceLeDiff, reduceCtorEq, b5, b3, bg0, b0, b4, f2, hdm, ePoint]
      · have hJ : 1 + k + 1 + m = L.length := by omega
        rw [hJ] at bI0 bg0 b3
        generalize hD : dd L L.length = D at *
        have hK : D.length < L.length := by omega
        have u4 : (D.length : Int) ≤ (L.length : Int) := by omega
        have u5 : D.length + (L.length - D.length) = L.length := by omega
        have u6 : (L.length - D.length) = (L.drop D.length).length := by simp
        have c1 : ((D ++ L.drop D.length).map ePoint).take D.length = D.map ePoint := by rw [← List.map_take, List.take_append_of_le_length (Nat.le_refl _), List.take_length]
        have c2 : ((D ++ L.drop D.length).map ePoint).drop L.length = [] := List.drop_eq_nil_of_le (by simp; omega)
        have c3 : D.length + (L.length - D.length) ≤ ((D ++ L.drop D.length).map ePoint).length := by simp
        have u7 : L.length ≤ D.length + (L.drop D.length).length := by simp; omega
        (try ((repeat (revert hN; revert N; apply Pn.out)); refine wk (tw @b5 (tw @b3 (tw @bg0 (tw @b0 (tw @b4 (tw @hm (tw @u4 (tw @u5 (tw @u7 (tw @c1 (tw @c2 @ePoint.eq_1))))))))))) ?_; (repeat (refine Pn.mk ?_; intro N hN))))
        refine retO (vs := [.own id 0 D.length]) (.inl rfl) (by simp only [vresL, vres1, Nat.sub_zero, go_sem, ↓reduceIte, Nat.reduceEqDiff, Nat.reduceAdd, Nat.reduceSub, Nat.reduceLeDiff, reduceCtorEq]) ⟨List.replicate (L.length - D.length) ⟨0, 0⟩, rfl, ?_⟩
        simp only [go_sem, ↓reduceIte, Nat.reduceEqDiff, Nat.reduceAdd, Nat.reduceSub, Nat.reduceLeDiff, reduceCtorEq, bg0, c1, c2]
        simp [ePoint]
  · have hkf : 1 + k = L.length := by omega
    have hd : dd L L.length = L := by rw [← hkf, aI0, hkf, List.take_length]
    (try ((repeat (revert hN; revert N; apply Pn.out)); refine wk (tw @a3 (tw @ag0 (tw @a0 @hk))) ?_; (repeat (refine Pn.mk ?_; intro N hN))))
    exact retO (vs := [.own id 0 L.length]) (.inl rfl) (by simp only [vresL, vres1, go_sem, ↓reduceIte, Nat.reduceEqDiff, Nat.reduceAdd, Nat.reduceSub, Nat.reduceLeDiff, reduceCtorEq, a3, ag0, a0]) ⟨[], by rw [hd]; rfl, by simp only [hd, List.append_nil]; exact ag0⟩

end Go.Proofs.YtpbniieiinhliaaGreat.V

namespace Go.Proofs.YtpbniieiinhliaaGreat.V
open Go.RowKit Go.Shelf Go.Lib Go.Sort

instance : Inhabited D_Point := ⟨⟨0, 0⟩⟩

/-- What the library's contract says, at points and their order. -/
def SortC : Prop := ∀ (blk off cap : Nat) (d : Array D_Point) (w : World), HoldsK enc_Point 2 w blk off d → blk < w.heap.size → d.size < 4611686018427387904 →
  Calls Tryz.prog 115 #[.slice (some ⟨blk, off, none⟩) d.size cap, .func (.func 92) #[] #[]] w fun e w' => e = .returned (.tuple #[]) ∧ ∃ d' n os, PermIn 0 d.size d d' ∧ SortedIn (ltOf cmpP) 0 d.size d' ∧ w' = sortWorldK enc_Point 2 w blk off n d' os
def SortN : Prop := ∀ (p : Option Addr) (cap : Nat) (fv : Value) (w : World), Calls Tryz.prog 115 #[.slice p 0 cap, fv] w fun e w' => e = .returned (.tuple #[]) ∧ w' = w

theorem enc_get (p : D_Point) (j : Nat) (a : AV) (h : (ePoint p)[j]? = some a) (P : Program) (w : World) (D : Nat → Prop) (ι : Names) : Rep P w D ι a (enc_Point p)[j]! := by
  match j, h with
  | 0, h => simp [ePoint] at h; subst h; exact .imm _ _ (.int _ _)
  | 1, h => simp [ePoint] at h; subst h; exact .imm _ _ (.int _ _)
  | j + 2, h => simp [ePoint] at h

theorem sortPts_v (hC : SortC) (hN : SortN) (ps : List D_Point) (hlen : ps.length ≤ 1048576) (σ : Store) (id : Id) (hg : σ.get id = some ⟨true, 2, ps.map ePoint⟩) :
    Call Tryz.prog 115 [.own id 0 ps.length, .fn 92 []] σ fun r σ' => ∃ qs, σ'.get id = some ⟨true, 2, qs.map ePoint⟩ ∧ qs.length = ps.length ∧ (∀ x, x ∈ qs ↔ x ∈ ps) ∧ ∀ i j : Nat, i < j → j < qs.length → ltB (pAt qs j) (pAt qs i) = false := by
  refine Call_world fun hs D ι w vs S U A => ?_
  obtain ⟨u1, us1, rfl, h1, h2⟩ := repL_cons A
  obtain ⟨u2, us2, h3, h4, h5⟩ := repL_cons h2
  simp at h3; subst h3
  have := repL_nil h5
  simp at this; subst this
  obtain ⟨o, cap, B, rfl, hB, hcap, ho, hfit, hmax⟩ := rep_own h1
  obtain ⟨vs', gf, rfl, _, hz, _, _⟩ := rep_fn h4
  have hz' : vs' = #[] := Array.eq_empty_of_size_eq_zero (by simpa using hz)
  subst hz'
  by_cases h0 : ps = []
  · subst h0
    refine (hN _ _ _ w).mono ?_
    rintro e w' ⟨rfl, rfl⟩
    exact ⟨.tup [], σ.get, σ.next, D, ι, _, rfl, ⟨[], hg, rfl, fun x => Iff.rfl, fun i j _ hj => by simp at hj⟩, Step.refl _ _ _ _, S, U, Nat.le_refl _, .tup [] #[] (fun _ => Go.undef) rfl (fun j hj => by simp at hj) (fun j a h => by simp at h)⟩
  have hpos : 0 < ps.length := List.length_pos_iff.2 h0
  obtain ⟨B', hB', R, hlo, hnd⟩ := S.row id _ hg
  rw [hB] at hB'; injection hB' with hB'; subst hB'
  have hsz : B.sz = 2 := R.sz
  have ho' : o = 0 := by rcases ho with h | h <;> omega
  subst ho'
  obtain ⟨cur, T, hblk, hcs, hat⟩ := R.cur
  have hfits : ps.length * 2 ≤ B.C := by simpa using R.fits
  have hH : HoldsK enc_Point 2 w B.b 0 ps.toArray := by
    intro t ht
    rw [size_flatK] at ht
    have ht2 : t < ps.length * 2 := by simpa using ht
    have hi : t / 2 < ps.length := by omega
    have hfz : w.frozen? ⟨B.b, 0 + t, none⟩ = false := by
      simp only [World.frozen?, hblk]; simp
    refine ⟨?_, hfz⟩
    rw [get_flatK _ _ _ _ ht]
    have hd : (ps.toArray)[t / 2]! = ps[t / 2] := by simp [getElem!_pos, hi]
    rw [hd]
    have hj : t % 2 = 0 ∨ t % 2 = 1 := by omega
    have ht3 : 0 + t = (t / 2) * 2 + t % 2 := by omega
    rw [ht3]
    rcases hj with hj | hj
    · obtain ⟨v, hv, hr⟩ := R.at_ (t / 2) 0 (ePoint ps[t / 2]) _ (by simp [hi]) rfl
      rw [rep_int hr] at hv
      rw [hj]; exact hv
    · obtain ⟨v, hv, hr⟩ := R.at_ (t / 2) 1 (ePoint ps[t / 2]) _ (by simp [hi]) rfl
      rw [rep_int hr] at hv
      rw [hj]; exact hv
  have hbl : B.b < w.heap.size := (Array.getElem?_eq_some_iff.1 hblk).1
  have hcon := hC B.b 0 cap ps.toArray w hH hbl (by simp; omega)
  rw [show ps.toArray.size = ps.length from by simp] at hcon
  refine hcon.mono ?_
  rintro e w' ⟨rfl, d', m, os, ⟨hs1, _, hperm⟩, hsort, rfl⟩
  have hds : d'.size = ps.length := by rw [hs1]; simp
  have hql : d'.toList.length = ps.length := by simpa using hds
  have hP : d'.toList.Perm ps := by
    have e1 : d'.extract 0 ps.length = d' := by rw [← hds]; exact Array.extract_size
    have e2 : ps.toArray.extract 0 ps.length = ps.toArray := by
      have : ps.length = ps.toArray.size := by simp
      rw [this]; exact Array.extract_size
    rw [e1, e2] at hperm
    simpa using hperm
  have hF : ∀ t, t < ps.length * 2 → (flatK enc_Point 2 d')[t]! = (enc_Point d'[t / 2]!)[t % 2]! := fun t ht => get_flatK _ _ _ _ (by rw [hds]; exact ht)
  have hFs : (flatK enc_Point 2 d').size = ps.length * 2 := by rw [size_flatK, hds]
  have hw : sortWorldK enc_Point 2 w B.b 0 m d' os = Go.Sort.grow (Go.Sort.putRow (fun v : Value => v) (Go.Sort.ahead w m) B.b 0 (flatK enc_Point 2 d')) os := rfl
  rw [hw]
  clear hw hH
  generalize flatK enc_Point 2 d' = Fl at hF hFs ⊢
  have hput := S.put (r' := ⟨true, 2, d'.toList.map ePoint⟩) (cur' := Go.Sort.putCells (fun v : Value => v) 0 Fl cur) hg rfl hB hblk (by simp [Go.Sort.putCells]) rfl rfl (by simpa [hds] using hfits) (fun cs hcs => by
      obtain ⟨x, _, rfl⟩ := List.mem_map.1 hcs; rfl) (fun cs hcs a ha => by
      obtain ⟨x, _, rfl⟩ := List.mem_map.1 hcs
      simp [ePoint] at ha; rcases ha with rfl | rfl <;> rfl) (fun i j cs a hi hj => by
      have hi2 : i < d'.toList.length := by
        have := (List.getElem?_eq_some_iff.1 hi).1
        simpa using this
      have hj2 : j < 2 := by
        have := List.mem_of_getElem? hi
        obtain ⟨x, _, rfl⟩ := List.mem_map.1 this
        exact (List.getElem?_eq_some_iff.1 hj).1
      have hcs2 : cs = ePoint d'[i]! := by
        rw [List.getElem?_map, List.getElem?_eq_getElem hi2] at hi
        simp at hi
        rw [← hi, getElem!_pos d' i (by simpa using hi2)]
      subst hcs2
      have htl : i * 2 + j < ps.length * 2 := by omega
      refine ⟨(enc_Point d'[i]!)[j]!, ?_, enc_get _ _ _ hj _ _ _ _⟩
      have hcl : i * 2 + j < cur.size := by rw [hcs]; omega
      show (Go.Sort.putCells (fun v : Value => v) 0 Fl cur)[i * 2 + j]? = _
      simp only [Go.Sort.putCells, Array.getElem?_mapIdx, Array.getElem?_eq_getElem hcl, Option.map_some]
      rw [if_pos ⟨Nat.zero_le _, by rw [hFs]; omega⟩, Nat.sub_zero, hF _ htl, show (i * 2 + j) / 2 = i from by omega, show (i * 2 + j) % 2 = j from by omega])
  obtain ⟨S1, St1⟩ := hput
  have hsz2 : (Go.Sort.putRow (fun v : Value => v) (Go.Sort.ahead w m) B.b 0 Fl).heap.size = w.heap.size := by simp
  have hheap : ∀ k, k < (w.setRow B.b (Go.Sort.putCells (fun v : Value => v) 0 Fl cur)).heap.size → (Go.Sort.grow (Go.Sort.putRow (fun v : Value => v) (Go.Sort.ahead w m) B.b 0 Fl) os).heap[k]? = (w.setRow B.b (Go.Sort.putCells (fun v : Value => v) 0 Fl cur)).heap[k]? := fun k hk => by
    have hk' : k < w.heap.size := by simpa using hk
    rw [heap_grow_old _ _ (by rw [hsz2]; exact hk')]
    simp only [Go.Sort.putRow, Go.Sort.mapBlock, heap_ahead, Array.getElem?_modify]
    by_cases hkb : B.b = k
    · subst hkb
      rw [setRow_heap w B.b cur _ T _ hblk, if_pos rfl, hblk]; rfl
    · rw [if_neg hkb, setRow_other w B.b k _ (fun h => hkb h.symm)]
  have hz2 : (w.setRow B.b (Go.Sort.putCells (fun v : Value => v) 0 Fl cur)).heap.size ≤ (Go.Sort.grow (Go.Sort.putRow (fun v : Value => v) (Go.Sort.ahead w m) B.b 0 Fl) os).heap.size := by
    rw [size_grow, hsz2]; simp
  have S2 := S1.stay (D' := D) (ι' := ι) hheap hz2 (fun _ h => h) (fun b hb => Nat.lt_of_lt_of_le (S1.dead b hb) hz2) (fun _ h => .inl h) (fun _ _ h => h)
  have St2 := St1.trans (Step.stay (D' := D) (ι' := ι) S1 hheap hz2 (by simp [Go.Sort.grow, Go.Sort.putRow, Go.Sort.mapBlock, Go.Sort.ahead]) (by simp [Go.Sort.grow, Go.Sort.putRow, Go.Sort.mapBlock, Go.Sort.ahead]) (by simp [Go.Sort.grow, Go.Sort.putRow, Go.Sort.mapBlock, Go.Sort.ahead]) (fun _ h => h) (fun _ h => .inl h) (fun _ _ h => h))
  refine ⟨.tup [], _, σ.next, D, ι, _, rfl, ⟨d'.toList, by simp [setR], hql, fun x => hP.mem_iff, fun i j hij hj => ?_⟩, St2, S2, U, Nat.le_refl _, .tup [] #[] (fun _ => Go.undef) rfl (fun j hj => by simp at hj) (fun j a h => by simp at h)⟩
  have h := hsort i j (Nat.zero_le _) hij (by omega)
  rw [ltOf, cmpP_lt] at h
  have e1 : d'[j]! = pAt d'.toList j := by rw [pAt_eq hj, getElem!_pos d' j (by simpa using hj)]; rfl
  have hi : i < d'.toList.length := by omega
  have e2 : d'[i]! = pAt d'.toList i := by rw [pAt_eq hi, getElem!_pos d' i (by simpa using hi)]; rfl
  rw [← e1, ← e2]; exact h

end Go.Proofs.YtpbniieiinhliaaGreat.V

namespace Go.Proofs.YtpbniieiinhliaaGreat.V
open Go.RowKit
attribute [local irreducible] wpv wpOps PCx Call
attribute [local go_sem] wantedV vop qop eop vis evO upd envOf K.av boxOf AV.cells AV.cell rowOf rowsOf part ld rowAt setR killR ibin vbin vsh vclear vsbin sbin eq1 eqL xorB vnil vnilS vnilF hiOf loOf vslice vsliceS viaddr vidxS vidxA vlen vnot vneg vconv vconvS vpick vchk vfield vextract vlenS fillV vmk rowsIn putCs vstore vappend seqQ blockQ most AV.undef callW locP locQ List.getD_cons_zero List.getD_cons_succ List.getD_nil List.all_cons List.all_nil Bool.and_true Bool.true_and Bool.and_self Bool.not_true Bool.not_false Option.map_some Option.map_none Option.bind_some Option.bind_none List.length_cons List.length_nil List.take_succ_cons List.take_zero List.take_nil List.drop_succ_cons List.drop_zero List.drop_nil List.head?_cons List.map_cons List.map_nil List.getElem?_cons_zero List.getElem?_cons_succ List.cons_append List.nil_append List.append_nil List.length_map List.set_cons_zero List.set_cons_succ Nat.reduceMul eq_self Int.toNat_natCast Int.natCast_nonneg and_self true_and and_true decide_true decide_false Bool.false_eq_true Nat.zero_add Nat.add_zero List.contains_cons List.contains_nil Bool.or_false Bool.false_or beq_self_eq_true Nat.reduceBEq ne_eq not_true_eq_false not_false_eq_true Id.mk.injEq false_and and_false Nat.reduceLT Int.reduceLE Int.reduceLT Int.reduceToNat Int.reduceNeg Int.reduceAdd Nat.le_refl List.length_append beq_true beq_false Bool.not_eq_eq_eq_not or_false false_or rw_ fzRow_cons fzRow_nil fz_int fz_bool fz_str fz_sl fz_nils fz_agg fz_iptr fz_ptrE fz_fn

theorem ris_exists : ∀ ps : List D_Point, ∃ qs, Ris qs ∧ ∀ x, x ∈ qs ↔ x ∈ ps
  | [] => ⟨[], List.Pairwise.nil, fun x => Iff.rfl⟩
  | p :: r => by
    obtain ⟨qs, h1, h2⟩ := ris_exists r
    refine ⟨qs.filter (fun x => ltB x p) ++ p :: qs.filter (fun x => ltB p x), ?_, fun x => ?_⟩
    · unfold Ris
      rw [List.pairwise_append, List.pairwise_cons]
      have ha : ∀ x ∈ qs.filter (fun x => ltB x p), ltB x p = true := fun x hx => (List.mem_filter.1 hx).2
      have hb : ∀ x ∈ qs.filter (fun x => ltB p x), ltB p x = true := fun x hx => (List.mem_filter.1 hx).2
      refine ⟨List.Pairwise.sublist List.filter_sublist h1, ⟨hb, List.Pairwise.sublist List.filter_sublist h1⟩, fun a h3 b h4 => ?_⟩
      rcases List.mem_cons.1 h4 with rfl | h4
      · exact ha a h3
      · exact ltB_trans (ha a h3) (hb b h4)
    · rw [List.mem_append, List.mem_cons, List.mem_cons, List.mem_filter, List.mem_filter, h2]
      constructor
      · rintro (⟨h, _⟩ | h | ⟨h, _⟩)
        · exact .inr h
        · exact .inl h
        · exact .inr h
      · rintro (h | h)
        · exact .inr (.inl h)
        · by_cases he : x = p
          · exact .inr (.inl he)
          · cases hl : ltB x p
            · exact .inr (.inr ⟨h, ltB_tri hl he⟩)
            · exact .inl ⟨h, rfl⟩

theorem sortNil_v (hN : SortN) (σ : Store) : Call Tryz.prog 115 [.nils, .fn 92 []] σ fun r σ' => σ' = σ := by
  refine Call_world fun hs D ι w vs S U A => ?_
  obtain ⟨u1, us1, rfl, h1, h2⟩ := repL_cons A
  obtain ⟨u2, us2, h3, h4, h5⟩ := repL_cons h2
  simp at h3; subst h3
  have := repL_nil h5
  simp at this; subst this
  have := rep_nils h1
  subst this
  refine (hN _ _ _ w).mono ?_
  rintro e w' ⟨rfl, rfl⟩
  exact ⟨.tup [], σ.get, σ.next, D, ι, _, rfl, rfl, Step.refl _ _ _ _, S, U, Nat.le_refl _, .tup [] #[] (fun _ => Go.undef) rfl (fun j hj => by simp at hj) (fun j a h => by simp at h)⟩

set_option maxRecDepth 100000 in
set_option maxHeartbeats 4000000 in
theorem cloneNil_v : RetS Tryz.prog 114 [.nils] .nils := by
  refine RetS.body cfE rfl fun hl n0 => ?_
  clear hl
  (try ((repeat (revert hN; revert N; apply Pn.out)); refine wk @Nat.zero_add ?_; (repeat (refine Pn.mk ?_; intro N hN))))
  exact ret1S (.inl rfl) (sd @Nat.zero_add) (fzS_nils _ _)
set_option maxRecDepth 100000 in
set_option maxHeartbeats 4000000 in
theorem compactNil_v : RetS Tryz.prog 116 [.nils] .nils := by
  refine RetS.body cfE rfl fun hl n0 => ?_
  clear hl
  have h2 : ((0 : Nat) : Int) < 2 := by decide
  (try ((repeat (revert hN; revert N; apply Pn.out)); refine wk @h2 ?_; (repeat (refine Pn.mk ?_; intro N hN))))
  exact ret1S (.inl rfl) (sd @Nat.zero_add) (fzS_nils _ _)

set_option maxRecDepth 100000 in
set_option maxHeartbeats 4000000 in
theorem sortedNil_v (hSN : SortN) : RetS Tryz.prog 75 [.nils] .nils := by
  refine RetS.body cfE rfl fun hl n0 => ?_
  clear hl
  (repeat (first | ((repeat (revert hN; revert N; apply Pn.out)); refine wk @Nat.zero_add ?_; (repeat (refine Pn.mk ?_; intro N hN))) | ((try apply Or.inl); refine ⟨_, RetS.x (cloneNil_v) (sd @Nat.zero_add), ?_⟩; refine hN _ _ ?_; clear hN N)))
  refine .inr ?_
  refine Call_mono _ _ _ _ _ (fun r σ' hq => ?_) (sortNil_v hSN _)
  subst hq
  refine hN _ _ ?_
  clear hN N
  (repeat (first | ((repeat (revert hN; revert N; apply Pn.out)); refine wk @Nat.zero_add ?_; (repeat (refine Pn.mk ?_; intro N hN))) | ((try apply Or.inl); refine ⟨_, RetS.x (compactNil_v) (sd @Nat.zero_add), ?_⟩; refine hN _ _ ?_; clear hN N)))
  exact ret1S (.inl rfl) (sd @Nat.zero_add) (fzS_nils _ _)

set_option maxRecDepth 100000 in
set_option maxHeartbeats 4000000 in
theorem sorted_v (hC : SortC) (hSN : SortN) (ps qs : List D_Point) (hlen : ps.length ≤ 1000000) (h0 : ps ≠ []) (hR : Ris qs) (hm : ∀ x, x ∈ qs ↔ x ∈ ps) : RetS Tryz.prog 75 [.sl (ps.map ePoint)] (.sl (qs.map ePoint)) := by
  refine RetS.body cfE rfl fun hl n0 => ?_
  clear hl
  obtain ⟨p, r, rfl⟩ : ∃ p r, ps = p :: r := by
    cases ps with
    | nil => exact absurd rfl h0
    | cons p r => exact ⟨p, r, rfl⟩
  (try ((repeat (revert hN; revert N; apply Pn.out)); refine wk @Nat.zero_add ?_; (repeat (refine Pn.mk ?_; intro N hN))))
  refine .inr ?_
  refine Call_mono _ _ _ _ _ (fun a σ' hq => ?_) (clonePts_v p r (by omega) _)
  obtain ⟨v, rfl, hg⟩ := hq
  refine hN _ _ ?_
  clear hN N
  (try ((repeat (revert hN; revert N; apply Pn.out)); refine wk @Nat.zero_add ?_; (repeat (refine Pn.mk ?_; intro N hN))))
  refine .inr ?_
  refine Call_mono _ _ _ _ _ (fun a σ' hq => ?_) (sortPts_v hC hSN (p :: r) (by omega) _ ⟨114003002, v⟩ hg)
  clear hg
  obtain ⟨ss, hg, hsl, hsm, hss⟩ := hq
  refine hN _ _ ?_
  clear hN N
  (try ((repeat (revert hN; revert N; apply Pn.out)); refine wk @Nat.zero_add ?_; (repeat (refine Pn.mk ?_; intro N hN))))
  refine .inr ?_
  rw [show r.length + 1 = ss.length from by rw [hsl]; rfl]
  refine Call_mono _ _ _ _ _ (fun a σ' hq => ?_) (compact_v ss (by omega) _ ⟨114003002, v⟩ hg)
  clear hg
  obtain ⟨X, rfl, hg⟩ := hq
  have hD : dd ss ss.length = qs := Ris.ext (dd_ris hss ss.length (Nat.le_refl _)) hR fun x => by
    rw [dd_mem, hm, ← hsm]
    constructor
    · rintro ⟨i, hi, rfl⟩
      rw [pAt_eq hi]; exact List.getElem_mem hi
    · intro hx
      obtain ⟨i, hi, rfl⟩ := List.getElem_of_mem hx
      exact ⟨i, hi, pAt_eq hi⟩
  rw [hD] at hg ⊢
  refine hN _ _ ?_
  clear hN N
  (try ((repeat (revert hN; revert N; apply Pn.out)); refine wk @Nat.zero_add ?_; (repeat (refine Pn.mk ?_; intro N hN))))
  refine ret1S (r0 := .own ⟨114003002, v⟩ 0 qs.length) (.inl rfl) (sd @Nat.zero_add) ?_
  refine fzS_own (sz := 2) (rows := (qs ++ X).map ePoint) hg (by simp) ?_
  rw [List.drop_zero, List.map_append, List.take_append_of_le_length (by simp), List.take_of_length_le (by simp)]
  exact fzSRows_map fun x => by simp [ePoint, fzSRow_cons, fzSRow_nil, fzS_int]


def OutS (n : Nat) : Prop := n = 37006004 ∨ n = 37020005
def ArS (n : Nat) : Prop := n = 37010006
theorem OutS.ne {o : Id} (h : OutS o.site) (s v : Nat) (h1 : ¬ (s = 37006004)) (h2 : ¬ (s = 37020005)) : (o = ⟨s, v⟩) = False := by
  simp only [eq_iff_iff, iff_false]; rintro rfl; rcases h with h | h <;> simp_all
theorem ArS.ne {o : Id} (h : ArS o.site) (s v : Nat) (h1 : ¬ (s = 37010006)) : (o = ⟨s, v⟩) = False := by
  simp only [eq_iff_iff, iff_false]; rintro rfl; exact h1 h
theorem ar_out {o : Id} (h : ArS o.site) : ¬ OutS o.site := by unfold ArS at h; unfold OutS; omega
theorem out_ar {o : Id} (h : OutS o.site) : ¬ ArS o.site := fun k => ar_out k h
/-- The points next to the first i cells. -/
def stepsN (c : D_SignalCell) (m : Nat) : List D_Point := (List.range m).map fun (d : Nat) => stepP c.g_At d
def arL (cells : List D_SignalCell) (i : Nat) : List D_Point := (cells.take i).flatMap fun c => stepsN c 4
theorem stepsN_succ (c : D_SignalCell) (m : Nat) : stepsN c (m + 1) = stepsN c m ++ [stepP c.g_At m] := by simp [stepsN, List.range_succ]
theorem arL_succ {cells : List D_SignalCell} {i : Nat} (h : i < cells.length) : arL cells (i + 1) = arL cells i ++ stepsN (cellAt cells i) 4 := by
  rw [arL, arL, List.take_succ_eq_append_getElem h, List.flatMap_append, cellAt_eq h]; simp
theorem arL_len {cells : List D_SignalCell} : ∀ i, i ≤ cells.length → (arL cells i).length = 4 * i
  | 0, _ => by simp [arL]
  | i + 1, h => by rw [arL_succ (by omega), List.length_append, arL_len i (by omega)]; simp [stepsN]; omega
theorem arL_mem {cells : List D_SignalCell} {x : D_Point} : ∀ i, i ≤ cells.length → (x ∈ arL cells i ↔ ∃ j d : Nat, j < i ∧ d < 4 ∧ stepP (cellAt cells j).g_At d = x)
  | 0, _ => by simp [arL]
  | i + 1, h => by
    rw [arL_succ (by omega), List.mem_append, arL_mem i (by omega)]
    constructor
    · rintro (⟨j, d, h1, h2, h3⟩ | h3)
      · exact ⟨j, d, by omega, h2, h3⟩
      · obtain ⟨d, hd, rfl⟩ := List.mem_map.1 h3
        exact ⟨i, d, by omega, List.mem_range.1 hd, rfl⟩
    · rintro ⟨j, d, h1, h2, h3⟩
      by_cases hj : j = i
      · subst hj; exact .inr (List.mem_map.2 ⟨d, List.mem_range.2 h2, h3⟩)
      · exact .inl ⟨j, d, by omega, h2, h3⟩
/-- Attachments at a place, of the first m tiles; none where the place is taken or not valid. -/
def atI (s : D_SignalSet) (temp : Int) (cells : List D_SignalCell) (p : D_Point) (m : Nat) : List D_SignalEvent := ((List.range m).filter (attachB s temp cells p)).map fun (k : Nat) => ⟨1, p, k⟩
theorem atI_yes {s : D_SignalSet} {temp : Int} {cells : List D_SignalCell} {p : D_Point} {m : Nat} (h : attachB s temp cells p m = true) : atI s temp cells p (m + 1) = atI s temp cells p m ++ [⟨1, p, m⟩] := by simp [atI, List.range_succ, h]
theorem atI_no {s : D_SignalSet} {temp : Int} {cells : List D_SignalCell} {p : D_Point} {m : Nat} (h : attachB s temp cells p m = false) : atI s temp cells p (m + 1) = atI s temp cells p m := by simp [atI, List.range_succ, h]
theorem atI_len (s : D_SignalSet) (temp : Int) (cells : List D_SignalCell) (p : D_Point) (m : Nat) : (atI s temp cells p m).length ≤ m := by
  rw [atI, List.length_map]
  exact Nat.le_trans (List.length_filter_le _ _) (by simp)
def goodB (cells : List D_SignalCell) (x : D_Point) : Bool := ptB x && !decide (idxN cells x < cells.length)
theorem goodB_iff {cells : List D_SignalCell} {x : D_Point} : goodB cells x = true ↔ goodP cells x := by simp [goodB, goodP]
theorem atI_eq (s : D_SignalSet) (temp : Int) (cells : List D_SignalCell) (p : D_Point) (m : Nat) : atI s temp cells p m = if goodB cells p = true then attN s temp cells p m else [] := by
  have e : attachB s temp cells p = fun k => goodB cells p && attB s temp cells p k := funext fun k => by rw [attachB, goodB, Bool.and_assoc]
  rw [atI, e]
  split
  · rename_i h; rw [h]; simp [attN]
  · rename_i h; rw [Bool.not_eq_true] at h; rw [h]; simp
def endI (s : D_SignalSet) (temp : Int) (cells : List D_SignalCell) (qs : List D_Point) (q : Nat) : List D_SignalEvent := evsN s cells cells.length ++ (qs.take q).flatMap fun p => atI s temp cells p s.g_Tiles.length
theorem endI_succ {s : D_SignalSet} {temp : Int} {cells : List D_SignalCell} {qs : List D_Point} {q : Nat} (h : q < qs.length) : endI s temp cells qs (q + 1) = endI s temp cells qs q ++ atI s temp cells (pAt qs q) s.g_Tiles.length := by
  rw [endI, endI, List.take_succ_eq_append_getElem h, List.flatMap_append, pAt_eq h, List.append_assoc]; simp
theorem flat_filter {α β : Type} (g : α → Bool) (f : α → List β) : ∀ l : List α, (l.flatMap fun x => if g x = true then f x else []) = (l.filter g).flatMap f
  | [] => rfl
  | a :: l => by
    rw [List.flatMap_cons, flat_filter g f l]
    cases h : g a
    · simp [List.filter_cons, h]
    · simp [List.filter_cons, h]
theorem endI_eq (s : D_SignalSet) (temp : Int) (cells : List D_SignalCell) (qs : List D_Point) : endI s temp cells qs qs.length = eventsL s temp cells (qs.filter (goodB cells)) := by
  rw [endI, eventsL, attsN, List.take_length, List.take_length]
  congr 1
  rw [← flat_filter (goodB cells) fun p => attN s temp cells p s.g_Tiles.length]
  congr 1
  funext p
  exact atI_eq s temp cells p _
theorem endI_len {s : D_SignalSet} {temp : Int} {cells : List D_SignalCell} {qs : List D_Point} (h6 : ∀ c ∈ cells, c.g_Fired.length ≤ 6) : ∀ q, q ≤ qs.length → (endI s temp cells qs q).length ≤ 8 * cells.length + q * s.g_Tiles.length
  | 0, _ => by have := evsN_len (s := s) h6 cells.length (Nat.le_refl _); simp [endI]; omega
  | q + 1, hq => by
    rw [endI_succ (by omega), List.length_append, Nat.add_mul]
    have := endI_len (s := s) (temp := temp) (qs := qs) h6 q (by omega)
    have h2 := atI_len s temp cells (pAt qs q) s.g_Tiles.length
    omega
theorem nodup_len : ∀ {l m : List D_Point}, l.Nodup → (∀ x ∈ l, x ∈ m) → l.length ≤ m.length
  | [], _, _, _ => Nat.zero_le _
  | a :: l, m, h, hs => by
    obtain ⟨h1, h2⟩ := List.nodup_cons.1 h
    have ha : a ∈ m := hs a (by simp)
    have := nodup_len (m := m.erase a) h2 fun x hx => by
      have hne : x ≠ a := fun e => h1 (e ▸ hx)
      exact (List.mem_erase_of_ne hne).2 (hs x (List.mem_cons_of_mem _ hx))
    rw [List.length_erase_of_mem ha] at this
    have hp := List.length_pos_of_mem ha
    simp only [List.length_cons]; omega
theorem zEv : ∀ a : D_SignalEvent, (eEvent a).length = 4 ∧ (eEvent a).all AV.cell = true := fun a => by simp [eEvent, AV.cell]
theorem zPt : ∀ a : D_Point, (ePoint a).length = 2 ∧ (ePoint a).all AV.cell = true := fun a => by simp [ePoint, AV.cell]

set_option maxRecDepth 100000 in
set_option maxHeartbeats 8000000 in
theorem iEvents_v (hC : SortC) (hSN : SortN) (s : D_SignalSet) (temp : Int) (cells : List D_SignalCell) (hok : CellsOk s cells) (qs : List D_Point) (hR : Ris qs) (hm : ∀ x, x ∈ qs ↔ x ∈ arL cells cells.length) (σ : Store) :
    Call Tryz.prog 37 [.agg (eWorld s temp cells)] σ fun r σ' => OutG eEvent 4 r σ'.get OutS (endI s temp cells qs qs.length) := by
  refine CallB cfE rfl fun hl => ?_
  clear hl
  have h80 := hok.few
  have h6 := hok.six
  have hev8 := fun i hi => evsN_len (s := s) (cells := cells) h6 i hi
  (try ((repeat (revert hN; revert N; apply Pn.out)); refine wk @eWorld.eq_1 ?_; (repeat (refine Pn.mk ?_; intro N hN))))
  refine w_loopF (fun n env st => ∃ i : Nat, n = (cells.length) - i ∧ i ≤ (cells.length) ∧ env 14 = .int .i64 (i : Int) ∧ st.get ⟨37000000, σ.next⟩ = some ⟨true, 4, [eWorld s temp cells]⟩ ∧ (OutG eEvent 4 (env 3) st.get OutS (evsN s cells i)) ∧ (OutG ePoint 2 (env 4) st.get ArS (arL cells i))) (cells.length) ⟨0, by omega, by omega, by (try simp only [go_sem, ↓reduceIte, Nat.reduceEqDiff, Nat.reduceAdd, Nat.reduceSub, Nat.reduceLeDiff, reduceCtorEq, eWorld]); try rfl, by (try simp only [go_sem, ↓reduceIte, Nat.reduceEqDiff, Nat.reduceAdd, Nat.reduceSub, Nat.reduceLeDiff, reduceCtorEq, eWorld]); try rfl, .inl ⟨by simp [evsN], sd @Nat.zero_add⟩, .inl ⟨by simp [arL], sd @Nat.zero_add⟩⟩ ?_
  rintro n_a env_a st_a ⟨i, rfl, ale, a14, ag0, aI0, aI1⟩ afr
  have a1 := afr 1 (by kernel_rfl); have a12 := afr 12 (by kernel_rfl); have a13 := afr 13 (by kernel_rfl)
  simp only [go_sem, ↓reduceIte, Nat.reduceEqDiff, Nat.reduceAdd, Nat.reduceSub, Nat.reduceLeDiff, reduceCtorEq, eWorld] at a1 a12 a13
  clear afr
  by_cases hk : (i : Int) < (cells.length : Int)
  · have nexta : ∀ {e : Env} {gg : Rows}, (e 14 = .int .i64 (IntKind.i64.wrap ((i : Int) + 1))) → (gg ⟨37000000, σ.next⟩ = some ⟨true, 4, [eWorld s temp cells]⟩) → (OutG eEvent 4 (e 3) gg OutS (evsN s cells (i + 1))) → (OutG ePoint 2 (e 4) gg ArS (arL cells (i + 1))) → ∃ m0, m0 < (cells.length) - i ∧ ∃ i : Nat, m0 = (cells.length) - i ∧ i ≤ (cells.length) ∧ e 14 = .int .i64 (i : Int) ∧ gg ⟨37000000, σ.next⟩ = some ⟨true, 4, [eWorld s temp cells]⟩ ∧ (OutG eEvent 4 (e 3) gg OutS (evsN s cells i)) ∧ (OutG ePoint 2 (e 4) gg ArS (arL cells i)) := fun x1 x2 x3 x4 => ⟨_, by omega, i + 1, rfl, by omega, (by rw [x1, wrap_succ2 (by omega)]), x2, x3, x4⟩
    have hi : i < cells.length := by omega
    have hcm : cellAt cells i ∈ cells := by rw [cellAt_eq hi]; exact List.getElem_mem _
    have hgi : (cells.map eCell)[i]? = some (eCell (cellAt cells i)) := get_map eCell hi
    have fi := hok.form _ hcm
    have hinn := inner_v s temp cells (cellAt cells i) hok fi (h6 _ hcm)
    have hes := evsN_succ (s := s) hi
    have has := arL_succ hi
    have hal := arL_len (cells := cells) i (by omega)
    have hel := hev8 i (by omega)
    have hcl := cellEvs_len s cells (cellAt cells i)
    have hcf := h6 _ hcm
    generalize cellAt cells i = c at *
    (repeat (first | ((repeat (revert hN; revert N; apply Pn.out)); refine wa (tw @a14 (tw @ag0 (tw @a1 (tw @a12 (tw @a13 (tw @hk (tw @hgi (tw @eCell.eq_1 @eWorld.eq_1)))))))) ?_; (repeat (refine Pn.mk ?_; intro N hN))) | ((try apply Or.inl); refine ⟨_, RetS.x (hinn) (sd (tw @a14 (tw @ag0 (tw @a1 (tw @a12 (tw @a13 (tw @hk (tw @hgi (tw @eCell.eq_1 @eWorld.eq_1))))))))), ?_⟩; refine hN _ _ ?_; clear hN N)))
    refine w_appG (enc := eEvent) (S := OutS) (L := evsN s cells i) (xv := env_a 3) (cellEvs s cells c) rfl rfl (sd @Nat.zero_add) (aI0.frame fun o ho => sd @ho.ne) (by simp only [go_sem, ↓reduceIte, Nat.reduceEqDiff, Nat.reduceAdd, Nat.reduceSub, Nat.reduceLeDiff, reduceCtorEq]; exact rowsIn_slN _) zEv (.inl rfl) (by simp only [most]; omega) fun v g' hO hfr => ?_
    have f1 := hfr ⟨37000000, σ.next⟩ (by simp [OutS])
    have f2 := hfr ⟨37005002, st_a.next + 1⟩ (by simp [OutS])
    simp only [go_sem, ↓reduceIte, Nat.reduceEqDiff, Nat.reduceAdd, Nat.reduceSub, Nat.reduceLeDiff, reduceCtorEq, a14, ag0, a1, a12, a13] at f1 f2
    rw [hes] at hO
    have hA : OutG ePoint 2 (env_a 4) g' ArS (arL cells i) := aI1.frame fun o ho => (hfr o (ar_out ho)).trans (sd @ho.ne)
    clear hfr
    (try ((repeat (revert hN; revert N; apply Pn.out)); refine wa (tw @a14 (tw @ag0 (tw @a1 (tw @a12 (tw @a13 (tw @f1 @f2)))))) ?_; (repeat (refine Pn.mk ?_; intro N hN))))
    refine w_loopF (fun n env st => ∃ d : Nat, n = (4) - d ∧ d ≤ (4) ∧ env 23 = .int .i64 (d : Int) ∧ st.get ⟨37000000, σ.next⟩ = some ⟨true, 4, [eWorld s temp cells]⟩ ∧ st.get ⟨37005002, st_a.next + 1⟩ = some ⟨true, 6, [eCell c]⟩ ∧ (OutG eEvent 4 (env 3) st.get OutS (evsN s cells (i + 1))) ∧ (OutG ePoint 2 (env 4) st.get ArS (arL cells i ++ stepsN c d))) (4) ⟨0, by omega, by omega, by (try simp only [go_sem, ↓reduceIte, Nat.reduceEqDiff, Nat.reduceAdd, Nat.reduceSub, Nat.reduceLeDiff, reduceCtorEq, a14, ag0, a1, a12, a13, f1, f2, eWorld, eCell]); try rfl, by (try simp only [go_sem, ↓reduceIte, Nat.reduceEqDiff, Nat.reduceAdd, Nat.reduceSub, Nat.reduceLeDiff, reduceCtorEq, a14, ag0, a1, a12, a13, f1, f2, eWorld, eCell]); try rfl, by (try simp only [go_sem, ↓reduceIte, Nat.reduceEqDiff, Nat.reduceAdd, Nat.reduceSub, Nat.reduceLeDiff, reduceCtorEq, a14, ag0, a1, a12, a13, f1, f2, eWorld, eCell]); try rfl, by (simp only [go_sem, ↓reduceIte, Nat.reduceEqDiff, Nat.reduceAdd, Nat.reduceSub, Nat.reduceLeDiff, reduceCtorEq]; exact hO), by (simp only [go_sem, ↓reduceIte, Nat.reduceEqDiff, Nat.reduceAdd, Nat.reduceSub, Nat.reduceLeDiff, reduceCtorEq]; exact hA.cast (by simp [stepsN]))⟩ ?_
    rintro n_b env_b st_b ⟨d, rfl, ble, b23, bg0, bg1, bI0, bI1⟩ bfr
    have b1 := bfr 1 (by kernel_rfl); have b6 := bfr 6 (by kernel_rfl); have b12 := bfr 12 (by kernel_rfl); have b13 := bfr 13 (by kernel_rfl); have b14 := bfr 14 (by kernel_rfl)
    simp only [go_sem, ↓reduceIte, Nat.reduceEqDiff, Nat.reduceAdd, Nat.reduceSub, Nat.reduceLeDiff, reduceCtorEq, a14, ag0, a1, a12, a13, f1, f2, eWorld, eCell] at b1 b6 b12 b13 b14
    clear bfr
    clear f1 f2 hO hA
    by_cases hd : (d : Int) < 4
    · have nextb : ∀ {e : Env} {gg : Rows}, (e 23 = .int .i64 (IntKind.i64.wrap ((d : Int) + 1))) → (gg ⟨37000000, σ.next⟩ = some ⟨true, 4, [eWorld s temp cells]⟩) → (gg ⟨37005002, st_a.next + 1⟩ = some ⟨true, 6, [eCell c]⟩) → (OutG eEvent 4 (e 3) gg OutS (evsN s cells (i + 1))) → (OutG ePoint 2 (e 4) gg ArS (arL cells i ++ stepsN c (d + 1))) → ∃ m0, m0 < (4) - d ∧ ∃ d : Nat, m0 = (4) - d ∧ d ≤ (4) ∧ e 23 = .int .i64 (d : Int) ∧ gg ⟨37000000, σ.next⟩ = some ⟨true, 4, [eWorld s temp cells]⟩ ∧ gg ⟨37005002, st_a.next + 1⟩ = some ⟨true, 6, [eCell c]⟩ ∧ (OutG eEvent 4 (e 3) gg OutS (evsN s cells (i + 1))) ∧ (OutG ePoint 2 (e 4) gg ArS (arL cells i ++ stepsN c d)) := fun x1 x2 x3 x4 x5 => ⟨_, by omega, d + 1, rfl, by omega, (by rw [x1, wrap_succ2 (by omega)]), x2, x3, x4, x5⟩
      have hdi : inB (d : Int) 0 3 = true := inB_of (by omega)
      have hst := step_v c.g_At d hdi fi.at_
      have hsl : (stepsN c d).length = d := by simp [stepsN]
      (repeat (first | ((repeat (revert hN; revert N; apply Pn.out)); refine wa (tw @b23 (tw @bg0 (tw @bg1 (tw @b1 (tw @b6 (tw @b12 (tw @b13 (tw @b14 (tw @hd (tw @eCell.eq_1 @ePoint.eq_1)))))))))) ?_; (repeat (refine Pn.mk ?_; intro N hN))) | ((try apply Or.inl); refine ⟨_, Ret.x (hst) _, ?_⟩; refine hN _ _ ?_; clear hN N)))
      refine w_appG (enc := ePoint) (S := ArS) (L := arL cells i ++ stepsN c d) (xv := env_b 4) [stepP c.g_At d] rfl rfl (sd @Nat.zero_add) (bI1.frame fun o ho => sd @ho.ne) (sd @ePoint.eq_1) zPt rfl (by simp only [most, List.length_append, List.length_cons, List.length_nil]; omega) fun v g' hA hfr => ?_
      rw [List.append_assoc, ← stepsN_succ] at hA
      have f1 := hfr ⟨37000000, σ.next⟩ (by simp [ArS])
      have f2 := hfr ⟨37005002, st_a.next + 1⟩ (by simp [ArS])
      simp only [go_sem, ↓reduceIte, Nat.reduceEqDiff, Nat.reduceAdd, Nat.reduceSub, Nat.reduceLeDiff, reduceCtorEq, b23, bg0, bg1, b1, b6, b12, b13, b14] at f1 f2
      have hO : OutG eEvent 4 (env_b 3) g' OutS (evsN s cells (i + 1)) := bI0.frame fun o ho => (hfr o (out_ar ho)).trans (sd @ho.ne)
      clear hfr
      (try ((repeat (revert hN; revert N; apply Pn.out)); refine wa (tw @b23 (tw @bg0 (tw @bg1 (tw @b1 (tw @b6 (tw @b12 (tw @b13 (tw @b14 (tw @f1 @f2))))))))) ?_; (repeat (refine Pn.mk ?_; intro N hN))))
      refine nextb ?_ ?_ ?_ (by (simp only [go_sem, ↓reduceIte, Nat.reduceEqDiff, Nat.reduceAdd, Nat.reduceSub, Nat.reduceLeDiff, reduceCtorEq]; exact hO)) (by (simp only [go_sem, ↓reduceIte, Nat.reduceEqDiff, Nat.reduceAdd, Nat.reduceSub, Nat.reduceLeDiff, reduceCtorEq]; exact hA))
      all_goals simp only [go_sem, ↓reduceIte, Nat.reduceEqDiff, Nat.reduceAdd, Nat.reduceSub, Nat.reduceLeDiff, reduceCtorEq, b23, bg0, bg1, b1, b6, b12, b13, b14, f1, f2, eWorld, eCell]
    · have hd4 : d = 4 := by omega
      subst hd4
      (try ((repeat (revert hN; revert N; apply Pn.out)); refine wk (tw @b23 (tw @bg0 (tw @bg1 (tw @b1 (tw @b6 (tw @b12 (tw @b13 (tw @b14 @hd)))))))) ?_; (repeat (refine Pn.mk ?_; intro N hN))))
      refine nexta ?_ ?_ (by (simp only [go_sem, ↓reduceIte, Nat.reduceEqDiff, Nat.reduceAdd, Nat.reduceSub, Nat.reduceLeDiff, reduceCtorEq]; exact bI0)) (by (simp only [go_sem, ↓reduceIte, Nat.reduceEqDiff, Nat.reduceAdd, Nat.reduceSub, Nat.reduceLeDiff, reduceCtorEq]; exact bI1.cast has))
      all_goals simp only [go_sem, ↓reduceIte, Nat.reduceEqDiff, Nat.reduceAdd, Nat.reduceSub, Nat.reduceLeDiff, reduceCtorEq, b23, bg0, bg1, b1, b6, b12, b13, b14, eWorld]
  · have hkf : i = cells.length := by omega
    subst hkf
    have hE0 : endI s temp cells qs 0 = evsN s cells cells.length := by simp [endI]
    have hnt := hok.tiles
    have hal := arL_len (cells := cells) cells.length (Nat.le_refl _)
    rcases aI1 with ⟨hA0, a4⟩ | ⟨o, ho, hpos, a4, ag⟩
    · have hq0 : qs = [] := by
        cases qs with
        | nil => rfl
        | cons x r => exact absurd ((hm x).1 (by simp)) (by rw [hA0]; simp)
      subst hq0
      (repeat (first | ((repeat (revert hN; revert N; apply Pn.out)); refine wk (tw @a14 (tw @ag0 (tw @a1 (tw @a12 (tw @a13 (tw @a4 @hk)))))) ?_; (repeat (refine Pn.mk ?_; intro N hN))) | ((try apply Or.inl); refine ⟨_, RetS.x (sortedNil_v hSN) (sd (tw @a14 (tw @ag0 (tw @a1 (tw @a12 (tw @a13 (tw @a4 @hk))))))), ?_⟩; refine hN _ _ ?_; clear hN N)))
      refine w_loopF (fun n env st => ∃ q : Nat, n = (0) - q ∧ q ≤ (0) ∧ env 38 = .int .i64 (q : Int) ∧ (OutG eEvent 4 (env 3) st.get OutS (endI s temp cells [] 0))) (0) ⟨0, by omega, by omega, by (try simp only [go_sem, ↓reduceIte, Nat.reduceEqDiff, Nat.reduceAdd, Nat.reduceSub, Nat.reduceLeDiff, reduceCtorEq, a14, ag0, a1, a12, a13]); try rfl, by (simp only [go_sem, ↓reduceIte, Nat.reduceEqDiff, Nat.reduceAdd, Nat.reduceSub, Nat.reduceLeDiff, reduceCtorEq]; exact aI0.cast hE0)⟩ ?_
      rintro n_e env_e st_e ⟨q, rfl, ele, e38, eI0⟩ efr
      have e37 := efr 37 (by kernel_rfl)
      simp only [go_sem, ↓reduceIte, Nat.reduceEqDiff, Nat.reduceAdd, Nat.reduceSub, Nat.reduceLeDiff, reduceCtorEq, a14, ag0, a1, a12, a13] at e37
      clear efr
      have hq : ¬ ((q : Int) < ((0 : Nat) : Int)) := by omega
      (try ((repeat (revert hN; revert N; apply Pn.out)); refine wk (tw @e38 (tw @e37 @hq)) ?_; (repeat (refine Pn.mk ?_; intro N hN))))
      exact retO (vs := [env_e 3]) (.inl rfl) (by simp only [vresL, vres1, go_sem, ↓reduceIte, Nat.reduceEqDiff, Nat.reduceAdd, Nat.reduceSub, Nat.reduceLeDiff, reduceCtorEq]) eI0
    · have hne : arL cells cells.length ≠ [] := fun h => by rw [h] at hpos; simp at hpos
      have hso := sorted_v hC hSN (arL cells cells.length) qs (by omega) hne hR hm
      have htk : ((arL cells cells.length).map ePoint).take (arL cells cells.length).length = (arL cells cells.length).map ePoint := List.take_of_length_le (by simp)
      have hfz : ∀ g, fzRows g 5 ((arL cells cells.length).map ePoint) = some ((arL cells cells.length).map ePoint) := fun g => fzRows_map fun x => by simp [ePoint, fzRow_cons, fzRow_nil, fz_int]
      (repeat (first | ((repeat (revert hN; revert N; apply Pn.out)); refine wk (tw @a14 (tw @ag0 (tw @a1 (tw @a12 (tw @a13 (tw @a4 (tw @ag (tw @hk (tw @htk (tw @hfz @fz_ownE)))))))))) ?_; (repeat (refine Pn.mk ?_; intro N hN))) | ((try apply Or.inl); refine ⟨_, RetS.x (hso) (sd (tw @a14 (tw @ag0 (tw @a1 (tw @a12 (tw @a13 (tw @a4 (tw @ag (tw @hk (tw @htk (tw @hfz @fz_ownE))))))))))), ?_⟩; refine hN _ _ ?_; clear hN N)))
      have hql : qs.length ≤ 320 := by
        have h1 : qs.length ≤ (arL cells cells.length).length := nodup_len hR.nodup fun x hx => (hm x).1 hx
        omega
      refine w_loopF (fun n env st => ∃ q : Nat, n = (qs.length) - q ∧ q ≤ (qs.length) ∧ env 38 = .int .i64 (q : Int) ∧ st.get ⟨37000000, σ.next⟩ = some ⟨true, 4, [eWorld s temp cells]⟩ ∧ (OutG eEvent 4 (env 3) st.get OutS (endI s temp cells qs q))) (qs.length) ⟨0, by omega, by omega, by (try simp only [go_sem, ↓reduceIte, Nat.reduceEqDiff, Nat.reduceAdd, Nat.reduceSub, Nat.reduceLeDiff, reduceCtorEq, a14, ag0, a1, a12, a13, eWorld]); try rfl, by (try simp only [go_sem, ↓reduceIte, Nat.reduceEqDiff, Nat.reduceAdd, Nat.reduceSub, Nat.reduceLeDiff, reduceCtorEq, a14, ag0, a1, a12, a13, eWorld]); try rfl, by (simp only [go_sem, ↓reduceIte, Nat.reduceEqDiff, Nat.reduceAdd, Nat.reduceSub, Nat.reduceLeDiff, reduceCtorEq]; exact aI0.cast hE0)⟩ ?_
      rintro n_e env_e st_e ⟨q, rfl, ele, e38, eg0, eI0⟩ efr
      have e1 := efr 1 (by kernel_rfl); have e36 := efr 36 (by kernel_rfl); have e37 := efr 37 (by kernel_rfl)
      simp only [go_sem, ↓reduceIte, Nat.reduceEqDiff, Nat.reduceAdd, Nat.reduceSub, Nat.reduceLeDiff, reduceCtorEq, a14, ag0, a1, a12, a13, eWorld] at e1 e36 e37
      clear efr
      by_cases hq : (q : Int) < (qs.length : Int)
      · have nexte : ∀ {e : Env} {gg : Rows}, (e 38 = .int .i64 (IntKind.i64.wrap ((q : Int) + 1))) → (gg ⟨37000000, σ.next⟩ = some ⟨true, 4, [eWorld s temp cells]⟩) → (OutG eEvent 4 (e 3) gg OutS (endI s temp cells qs (q + 1))) → ∃ m0, m0 < (qs.length) - q ∧ ∃ q : Nat, m0 = (qs.length) - q ∧ q ≤ (qs.length) ∧ e 38 = .int .i64 (q : Int) ∧ gg ⟨37000000, σ.next⟩ = some ⟨true, 4, [eWorld s temp cells]⟩ ∧ (OutG eEvent 4 (e 3) gg OutS (endI s temp cells qs q)) := fun x1 x2 x3 => ⟨_, by omega, q + 1, rfl, by omega, (by rw [x1, wrap_succ2 (by omega)]), x2, x3⟩
        have hqn : q < qs.length := by omega
        have hgq : (qs.map ePoint)[q]? = some (ePoint (pAt qs q)) := pAt_get hqn
        have hes := endI_succ (s := s) (temp := temp) (cells := cells) hqn
        have hel := endI_len (s := s) (temp := temp) (qs := qs) h6 q (by omega)
        have hel2 : q * s.g_Tiles.length ≤ 320 * 160 := Nat.mul_le_mul (by omega) hnt
        generalize pAt qs q = p at *
        (try ((repeat (revert hN; revert N; apply Pn.out)); refine wk (tw @e38 (tw @eg0 (tw @e1 (tw @e36 (tw @e37 (tw @hq (tw @hgq (tw @eWorld.eq_1 @ePoint.eq_1)))))))) ?_; (repeat (refine Pn.mk ?_; intro N hN))))
        refine w_loopF (fun n env st => ∃ k : Nat, n = (s.g_Tiles.length) - k ∧ k ≤ (s.g_Tiles.length) ∧ env 46 = .int .i64 (k : Int) ∧ st.get ⟨37000000, σ.next⟩ = some ⟨true, 4, [eWorld s temp cells]⟩ ∧ st.get ⟨37015002, st_e.next + 1⟩ = some ⟨true, 2, [ePoint p]⟩ ∧ (OutG eEvent 4 (env 3) st.get OutS (endI s temp cells qs q ++ atI s temp cells p k))) (s.g_Tiles.length) ⟨0, by omega, by omega, by (try simp only [go_sem, ↓reduceIte, Nat.reduceEqDiff, Nat.reduceAdd, Nat.reduceSub, Nat.reduceLeDiff, reduceCtorEq, e38, eg0, e1, e36, e37, eWorld, ePoint]); try rfl, by (try simp only [go_sem, ↓reduceIte, Nat.reduceEqDiff, Nat.reduceAdd, Nat.reduceSub, Nat.reduceLeDiff, reduceCtorEq, e38, eg0, e1, e36, e37, eWorld, ePoint]); try rfl, by (try simp only [go_sem, ↓reduceIte, Nat.reduceEqDiff, Nat.reduceAdd, Nat.reduceSub, Nat.reduceLeDiff, reduceCtorEq, e38, eg0, e1, e36, e37, eWorld, ePoint]); try rfl, by (simp only [go_sem, ↓reduceIte, Nat.reduceEqDiff, Nat.reduceAdd, Nat.reduceSub, Nat.reduceLeDiff, reduceCtorEq]; exact (eI0.frame fun o ho => sd @ho.ne).cast (by simp [atI]))⟩ ?_
        rintro n_f env_f st_f ⟨k, rfl, fle, f46, fg0, fg1, fI0⟩ ffr
        have f1 := ffr 1 (by kernel_rfl); have f9 := ffr 9 (by kernel_rfl); have f36 := ffr 36 (by kernel_rfl); have f37 := ffr 37 (by kernel_rfl); have f38 := ffr 38 (by kernel_rfl); have f44 := ffr 44 (by kernel_rfl); have f45 := ffr 45 (by kernel_rfl)
        simp only [go_sem, ↓reduceIte, Nat.reduceEqDiff, Nat.reduceAdd, Nat.reduceSub, Nat.reduceLeDiff, reduceCtorEq, e38, eg0, e1, e36, e37, eWorld, ePoint] at f1 f9 f36 f37 f38 f44 f45
        clear ffr
        by_cases hkt : (k : Int) < (s.g_Tiles.length : Int)
        · have nextf : ∀ {e : Env} {gg : Rows}, (e 46 = .int .i64 (IntKind.i64.wrap ((k : Int) + 1))) → (gg ⟨37000000, σ.next⟩ = some ⟨true, 4, [eWorld s temp cells]⟩) → (gg ⟨37015002, st_e.next + 1⟩ = some ⟨true, 2, [ePoint p]⟩) → (OutG eEvent 4 (e 3) gg OutS (endI s temp cells qs q ++ atI s temp cells p (k + 1))) → ∃ m0, m0 < (s.g_Tiles.length) - k ∧ ∃ k : Nat, m0 = (s.g_Tiles.length) - k ∧ k ≤ (s.g_Tiles.length) ∧ e 46 = .int .i64 (k : Int) ∧ gg ⟨37000000, σ.next⟩ = some ⟨true, 4, [eWorld s temp cells]⟩ ∧ gg ⟨37015002, st_e.next + 1⟩ = some ⟨true, 2, [ePoint p]⟩ ∧ (OutG eEvent 4 (e 3) gg OutS (endI s temp cells qs q ++ atI s temp cells p k)) := fun x1 x2 x3 x4 => ⟨_, by omega, k + 1, rfl, by omega, (by rw [x1, wrap_succ2 (by omega)]), x2, x3, x4⟩
          have hkn : k < s.g_Tiles.length := by omega
          have hatt := attaches_v s temp cells p k hkn hok
          have hak := atI_len s temp cells p k
          cases hcb : attachB s temp cells p k
          · (repeat (first | ((repeat (revert hN; revert N; apply Pn.out)); refine wk (tw @f46 (tw @fg0 (tw @fg1 (tw @f1 (tw @f9 (tw @f36 (tw @f37 (tw @f38 (tw @f44 (tw @f45 (tw @hkt (tw @hcb (tw @eWorld.eq_1 @ePoint.eq_1))))))))))))) ?_; (repeat (refine Pn.mk ?_; intro N hN))) | ((try apply Or.inl); refine ⟨_, RetS.x (hatt) (sd (tw @f46 (tw @fg0 (tw @fg1 (tw @f1 (tw @f9 (tw @f36 (tw @f37 (tw @f38 (tw @f44 (tw @f45 (tw @hkt (tw @hcb (tw @eWorld.eq_1 @ePoint.eq_1)))))))))))))), ?_⟩; refine hN _ _ ?_; clear hN N)))
            refine nextf ?_ ?_ ?_ (by (simp only [go_sem, ↓reduceIte, Nat.reduceEqDiff, Nat.reduceAdd, Nat.reduceSub, Nat.reduceLeDiff, reduceCtorEq]; exact fI0.cast (by rw [atI_no hcb])))
            all_goals simp only [go_sem, ↓reduceIte, Nat.reduceEqDiff, Nat.reduceAdd, Nat.reduceSub, Nat.reduceLeDiff, reduceCtorEq, f46, fg0, fg1, f1, f9, f36, f37, f38, f44, f45, eWorld, ePoint]
          · (repeat (first | ((repeat (revert hN; revert N; apply Pn.out)); refine wa (tw @f46 (tw @fg0 (tw @fg1 (tw @f1 (tw @f9 (tw @f36 (tw @f37 (tw @f38 (tw @f44 (tw @f45 (tw @hkt (tw @hcb (tw @eWorld.eq_1 @ePoint.eq_1))))))))))))) ?_; (repeat (refine Pn.mk ?_; intro N hN))) | ((try apply Or.inl); refine ⟨_, RetS.x (hatt) (sd (tw @f46 (tw @fg0 (tw @fg1 (tw @f1 (tw @f9 (tw @f36 (tw @f37 (tw @f38 (tw @f44 (tw @f45 (tw @hkt (tw @hcb (tw @eWorld.eq_1 @ePoint.eq_1)))))))))))))), ?_⟩; refine hN _ _ ?_; clear hN N)))
            refine w_appG (enc := eEvent) (S := OutS) (L := endI s temp cells qs q ++ atI s temp cells p k) (xv := env_f 3) [⟨1, p, k⟩] rfl rfl (sd @Nat.zero_add) (fI0.frame fun o ho => sd @ho.ne) (sd @eEvent.eq_1) zEv (.inr rfl) (by simp only [most, List.length_append, List.length_cons, List.length_nil]; omega) fun v g' hO hfr => ?_
            rw [List.append_assoc, ← atI_yes hcb] at hO
            have u1 := hfr ⟨37000000, σ.next⟩ (by simp [OutS])
            have u2 := hfr ⟨37015002, st_e.next + 1⟩ (by simp [OutS])
            simp only [go_sem, ↓reduceIte, Nat.reduceEqDiff, Nat.reduceAdd, Nat.reduceSub, Nat.reduceLeDiff, reduceCtorEq, f46, fg0, fg1, f1, f9, f36, f37, f38, f44, f45] at u1 u2
            clear hfr
            (try ((repeat (revert hN; revert N; apply Pn.out)); refine wa (tw @f46 (tw @fg0 (tw @fg1 (tw @f1 (tw @f9 (tw @f36 (tw @f37 (tw @f38 (tw @f44 (tw @f45 (tw @u1 @u2))))))))))) ?_; (repeat (refine Pn.mk ?_; intro N hN))))
            refine nextf ?_ ?_ ?_ (by (simp only [go_sem, ↓reduceIte, Nat.reduceEqDiff, Nat.reduceAdd, Nat.reduceSub, Nat.reduceLeDiff, reduceCtorEq]; exact hO))
            all_goals simp only [go_sem, ↓reduceIte, Nat.reduceEqDiff, Nat.reduceAdd, Nat.reduceSub, Nat.reduceLeDiff, reduceCtorEq, f46, fg0, fg1, f1, f9, f36, f37, f38, f44, f45, u1, u2, eWorld, ePoint]
        · have hkf : k = s.g_Tiles.length := by omega
          subst hkf
          (try ((repeat (revert hN; revert N; apply Pn.out)); refine wk (tw @f46 (tw @fg0 (tw @fg1 (tw @f1 (tw @f9 (tw @f36 (tw @f37 (tw @f38 (tw @f44 (tw @f45 @hkt)))))))))) ?_; (repeat (refine Pn.mk ?_; intro N hN))))
          refine nexte ?_ ?_ (by (simp only [go_sem, ↓reduceIte, Nat.reduceEqDiff, Nat.reduceAdd, Nat.reduceSub, Nat.reduceLeDiff, reduceCtorEq]; exact fI0.cast hes))
          all_goals simp only [go_sem, ↓reduceIte, Nat.reduceEqDiff, Nat.reduceAdd, Nat.reduceSub, Nat.reduceLeDiff, reduceCtorEq, f46, fg0, fg1, f1, f9, f36, f37, f38, f44, f45, eWorld]
      · have hqf : q = qs.length := by omega
        subst hqf
        (try ((repeat (revert hN; revert N; apply Pn.out)); refine wk (tw @e38 (tw @eg0 (tw @e1 (tw @e36 (tw @e37 @hq))))) ?_; (repeat (refine Pn.mk ?_; intro N hN))))
        exact retO (vs := [env_e 3]) (.inl rfl) (by simp only [vresL, vres1, go_sem, ↓reduceIte, Nat.reduceEqDiff, Nat.reduceAdd, Nat.reduceSub, Nat.reduceLeDiff, reduceCtorEq]) eI0

end Go.Proofs.YtpbniieiinhliaaGreat.V
