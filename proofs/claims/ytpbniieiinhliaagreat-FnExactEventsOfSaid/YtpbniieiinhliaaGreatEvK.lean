/- The reference puts a point to its place. -/
import Derived.Test.YtpbniieiinhliaaGreatEvC
import Derived.Test.YtpbniieiinhliaaGreatEvH
import Derived.Test.YtpbniieiinhliaaGreatEvJ
import Derived.Test.YtpbniieiinhliaaGreatEvI
set_option linter.unusedVariables false
set_option linter.unusedSimpArgs false
namespace Go.Proofs.YtpbniieiinhliaaGreat.V
open Go.RowKit
attribute [local irreducible] wpv wpOps
attribute [local go_sem] wantedV vop qop eop vis evO upd envOf K.av boxOf AV.cells AV.cell rowOf rowsOf part ld rowAt setR killR ibin vbin vsh vclear vsbin sbin eq1 eqL xorB vnil vnilS vnilF hiOf loOf vslice vsliceS viaddr vidxS vidxA vlen vnot vneg vconv vconvS vpick vchk vfield vextract vlenS fillV vmk rowsIn putCs vstore vappend seqQ blockQ most AV.undef callW List.getD_cons_zero List.getD_cons_succ List.getD_nil List.all_cons List.all_nil Bool.and_true Bool.true_and Bool.and_self Bool.not_true Bool.not_false Option.map_some Option.map_none Option.bind_some Option.bind_none List.length_cons List.length_nil List.take_succ_cons List.take_zero List.take_nil List.drop_succ_cons List.drop_zero List.drop_nil List.head?_cons List.map_cons List.map_nil List.getElem?_cons_zero List.getElem?_cons_succ List.cons_append List.nil_append List.append_nil List.length_map List.set_cons_zero List.set_cons_succ Nat.reduceMul eq_self Int.toNat_natCast Int.natCast_nonneg and_self true_and and_true decide_true decide_false Bool.false_eq_true Nat.zero_add Nat.add_zero List.contains_cons List.contains_nil Bool.or_false Bool.false_or beq_self_eq_true Nat.reduceBEq ne_eq not_true_eq_false not_false_eq_true Id.mk.injEq false_and and_false Nat.reduceLT Int.reduceLE Int.reduceLT Int.reduceToNat Int.reduceNeg Int.reduceAdd Nat.le_refl List.length_append beq_true beq_false Bool.not_eq_eq_eq_not rw_ fzRow_cons fzRow_nil fz_int fz_bool fz_str fz_sl fz_nils fz_agg fz_iptr fz_ptrE fz_fn fz_nilp fz_nilf fz_tup

def pAt (ps : List D_Point) (i : Nat) : D_Point := ps.getD i ⟨0, 0⟩
theorem pAt_eq {ps : List D_Point} {i : Nat} (h : i < ps.length) : pAt ps i = ps[i] := by simp [pAt, List.getD_eq_getElem?_getD, h]
theorem pAt_get {ps : List D_Point} {i : Nat} (h : i < ps.length) : (ps.map ePoint)[i]? = some (ePoint (pAt ps i)) := get_map ePoint h
/-- While the elements behind place i move on: place i is free. -/
def shift (ps : List D_Point) (p : D_Point) (i : Nat) : List D_Point := if i < ps.length then ps.take (i + 1) ++ ps.drop i else ps ++ [p]
theorem shift_len {ps : List D_Point} {p : D_Point} {i : Nat} (h : i ≤ ps.length) : (shift ps p i).length = ps.length + 1 := by
  unfold shift; split <;> simp <;> omega
theorem shift_get {ps : List D_Point} {p : D_Point} {i : Nat} (h : i ≤ ps.length) {x : Nat} (hx : x < i) : pAt (shift ps p i) x = pAt ps x := by
  unfold shift pAt
  simp only [List.getD_eq_getElem?_getD]
  split
  · rw [List.getElem?_append_left (by simp; omega), List.getElem?_take_of_lt (by omega)]
  · rw [List.getElem?_append_left (by omega)]
theorem shift_set {ps : List D_Point} {p : D_Point} {i : Nat} (h : i ≤ ps.length) (h0 : 0 < i) : (shift ps p i).set i (pAt ps (i - 1)) = shift ps p (i - 1) := by
  unfold shift
  rw [if_pos (show i - 1 < ps.length by omega), show i - 1 + 1 = i from by omega]
  have e1 : ps.drop (i - 1) = pAt ps (i - 1) :: ps.drop i := by
    rw [pAt_eq (by omega), List.drop_eq_getElem_cons (by omega)]; congr 1; rw [show i - 1 + 1 = i from by omega]
  rw [e1]
  split
  · rw [List.take_succ_eq_append_getElem (by omega), List.append_assoc, List.set_append_right _ _ (by simp; omega)]
    congr 1
    simp [show i - min i ps.length = 0 from by omega]
  · have hi : i = ps.length := by omega
    subst hi
    rw [List.set_append_right _ _ (by omega)]
    simp
theorem shift_put {ps : List D_Point} {p : D_Point} {i : Nat} (h : i ≤ ps.length) : (shift ps p i).set i p = ps.take i ++ p :: ps.drop i := by
  unfold shift
  split
  · rw [List.take_succ_eq_append_getElem (by omega), List.append_assoc, List.set_append_right _ _ (by simp; omega)]
    congr 1
    simp [show i - min i ps.length = 0 from by omega]
  · have hi : i = ps.length := by omega
    subst hi
    rw [List.set_append_right _ _ (by omega)]
    simp
theorem set_map {α β : Type} (e : α → β) (l : List α) (i : Nat) (x : α) : (l.map e).set i (e x) = (l.set i x).map e := by rw [List.map_set]

set_option maxRecDepth 100000 in
set_option maxHeartbeats 4000000 in
theorem l08PutPoint_v (ps : List D_Point) (p : D_Point) (hs : Ris ps) (hlen : ps.length ≤ 1000000) (σ : Store) (id : Id) (hg : σ.get id = some ⟨true, 2, ps.map ePoint⟩)
    (i1 : ∀ v, ¬ (id = ⟨67000000, v⟩)) (i2 : ∀ v, ¬ (id = ⟨67006002, v⟩)) :
    Call Tryz.prog 67 [.own id 0 ps.length, .agg (ePoint p)] σ fun r σ' => ∃ qs id', r = .own id' 0 qs.length ∧ σ'.get id' = some ⟨true, 2, qs.map ePoint⟩ ∧ Ris qs ∧ (∀ x, x ∈ qs ↔ x ∈ ps ∨ x = p) ∧ qs.length ≤ ps.length + 1 ∧
      (id' = id ∨ id'.site = 67006003) ∧ σ.next ≤ σ'.next ∧ ∀ j, j.site / 1000000 ≠ 67 → j ≠ id → σ'.get j = σ.get j := by
  refine CallB cf67 rfl fun hl => ?_
  try simp only [q]
  clear hl
  have i1' : ∀ v, ¬ (⟨67000000, v⟩ = id) := fun v h => i1 v h.symm
  have i2' : ∀ v, ¬ (⟨67006002, v⟩ = id) := fun v h => i2 v h.symm
  have ne : ∀ j : Id, j.site / 1000000 ≠ 67 → (∀ v, ¬ (j = ⟨67000000, v⟩)) ∧ (∀ v, ¬ (j = ⟨67006002, v⟩)) ∧ (∀ v, ¬ (j = ⟨67006003, v⟩)) := fun j h => ⟨fun v e => by subst e; exact h (show 67000000 / 1000000 = 67 by decide), fun v e => by subst e; exact h (show 67006002 / 1000000 = 67 by decide), fun v e => by subst e; exact h (show 67006003 / 1000000 = 67 by decide)⟩
  (repeat (first | ((first | apply w_seq | apply w_reg); intro N hN) | ((first | (apply w_op; intro N hN) | apply w_condB); simp only [go_sem, ↓reduceIte, Nat.reduceEqDiff, Nat.reduceAdd, Nat.reduceSub, Nat.reduceLeDiff, reduceCtorEq, hg, i1, i2]; first | (refine hN _ _ ?_; clear hN N) | (rfl; change wpv _ _ _ _ _) | skip) | (apply w_nil; refine hN _ _ ?_; clear hN N; try (simp only [seqQ, blockQ, ↓reduceIte, Nat.reduceEqDiff]); try (refine hN _ _ ?_; clear hN N)) | apply w_block | ((first | apply w_skip | apply w_exit | apply w_ret); try (simp only [seqQ, blockQ, ↓reduceIte, Nat.reduceEqDiff]); try (refine hN _ _ ?_; clear hN N)) | ((first | refine hN _ _ ?_ | (clear hN N; first | refine hN _ _ ?_ | (clear hN N; first | refine hN _ _ ?_ | (clear hN N; first | refine hN _ _ ?_ | (clear hN N; refine hN _ _ ?_))))); clear hN N)))
  refine w_loopF (fun n env st => ∃ k : Nat, n = (ps.length) - k ∧ k ≤ (ps.length) ∧ env 5 = .int .i64 ((ps.length - k : Nat) : Int) ∧ st.get ⟨67000000, σ.next⟩ = some ⟨true, 2, [ePoint p]⟩ ∧ st.get id = some ⟨true, 2, ps.map ePoint⟩ ∧ (σ.next ≤ st.next ∧ (∀ j : Id, j.site / 1000000 ≠ 67 → j ≠ id → st.get j = σ.get j)) ∧ (∀ j : Nat, j < k → ltB (pAt ps (ps.length - 1 - j)) p = false)) (ps.length) ⟨0, by omega, by omega, by (try simp only [go_sem, ↓reduceIte, Nat.reduceEqDiff, Nat.reduceAdd, Nat.reduceSub, Nat.reduceLeDiff, reduceCtorEq, hg, i1, i2, i1', i2', ePoint]); try rfl, by (try simp only [go_sem, ↓reduceIte, Nat.reduceEqDiff, Nat.reduceAdd, Nat.reduceSub, Nat.reduceLeDiff, reduceCtorEq, hg, i1, i2, i1', i2', ePoint]); try rfl, by (try simp only [go_sem, ↓reduceIte, Nat.reduceEqDiff, Nat.reduceAdd, Nat.reduceSub, Nat.reduceLeDiff, reduceCtorEq, hg, i1, i2, i1', i2', ePoint]); try rfl, ⟨by (try dsimp only); omega, fun j h1 h2 => by simp only [go_sem, ↓reduceIte, Nat.reduceEqDiff, Nat.reduceAdd, Nat.reduceSub, Nat.reduceLeDiff, reduceCtorEq, (ne j h1).1]⟩, fun _ h => absurd h (Nat.not_lt_zero _)⟩ ?_
  rintro n_a env_a st_a ⟨k, rfl, ale, a5, ag0, ag1, aI0, aA0⟩ afr
  have a0 := afr 0 (by kernel_rfl); have a3 := afr 3 (by kernel_rfl)
  simp only [go_sem, ↓reduceIte, Nat.reduceEqDiff, Nat.reduceAdd, Nat.reduceSub, Nat.reduceLeDiff, reduceCtorEq, hg, i1, i2, i1', i2', ePoint] at a0 a3
  clear afr
  have fin : ∀ {e : Env} {s : Store} (J : Nat), J ≤ ps.length → (∀ i (hi : i < ps.length), J ≤ i → ltB ps[i] p = false) → (∀ i (hi : i < ps.length), i < J → ltB ps[i] p = true) → e 0 = .own id 0 ps.length → e 3 = .ptr ⟨67000000, σ.next⟩ 0 0 → e 5 = .int .i64 (J : Int) →
      s.get ⟨67000000, σ.next⟩ = some ⟨true, 2, [ePoint p]⟩ → s.get id = some ⟨true, 2, ps.map ePoint⟩ → σ.next ≤ s.next → (∀ j : Id, j.site / 1000000 ≠ 67 → j ≠ id → s.get j = σ.get j) → N e s := by
    intro e s J hJ hge hlt h0 h3 h5 g0 g1 hnx hfr
    refine hN _ _ ?_
    clear hN a0 a3 aI0 aA0 ag0 ag1
    refine w_seq fun N hN => ?_
    have fin2 : ∀ {e : Env} {s : Store}, (∀ hi : J < ps.length, ps[J] ≠ p) → e 0 = .own id 0 ps.length → e 3 = .ptr ⟨67000000, σ.next⟩ 0 0 → e 5 = .int .i64 (J : Int) →
        s.get ⟨67000000, σ.next⟩ = some ⟨true, 2, [ePoint p]⟩ → s.get id = some ⟨true, 2, ps.map ePoint⟩ → σ.next ≤ s.next → (∀ j : Id, j.site / 1000000 ≠ 67 → j ≠ id → s.get j = σ.get j) → N e s := by
      clear h0 h3 h5 g0 g1 hnx hfr
      intro e s hne h0 h3 h5 g0 g1 hnx hfr
      refine hN _ _ ?_
      clear hN
      have l1 : ps.length ≤ 16777215 := by omega
      have l2 : ps.map ePoint ++ [[.int .i64 p.g_X, .int .i64 p.g_Y]] = (shift ps p ps.length).map ePoint := by rw [shift, if_neg (Nat.lt_irrefl _), List.map_append]; rfl
      have l3 : IntKind.i64.wrap (((ps.length + 1 : Nat) : Int) - 1) = (ps.length : Int) := by rw [wrap_id (by omega)]; omega
      (repeat (first | ((first | apply w_seq | apply w_reg); intro N hN) | ((first | (apply w_op; intro N hN) | apply w_condB); simp only [go_sem, ↓reduceIte, Nat.reduceEqDiff, Nat.reduceAdd, Nat.reduceSub, Nat.reduceLeDiff, reduceCtorEq, h0, h3, h5, g0, g1, i1, i2, i1', i2', l1, l2, l3, ePoint]; first | (refine hN _ _ ?_; clear hN N) | (rfl; change wpv _ _ _ _ _) | skip) | (apply w_nil; refine hN _ _ ?_; clear hN N; try (simp only [seqQ, blockQ, ↓reduceIte, Nat.reduceEqDiff]); try (refine hN _ _ ?_; clear hN N)) | apply w_block | ((first | apply w_skip | apply w_exit | apply w_ret); try (simp only [seqQ, blockQ, ↓reduceIte, Nat.reduceEqDiff]); try (refine hN _ _ ?_; clear hN N)) | ((first | refine hN _ _ ?_ | (clear hN N; first | refine hN _ _ ?_ | (clear hN N; first | refine hN _ _ ?_ | (clear hN N; first | refine hN _ _ ?_ | (clear hN N; refine hN _ _ ?_))))); clear hN N)))
      refine w_loopF (fun n env st => ∃ m : Nat, n = (ps.length - J) - m ∧ m ≤ (ps.length - J) ∧ env 6 = .int .i64 ((ps.length - m : Nat) : Int) ∧ st.get ⟨67000000, σ.next⟩ = some ⟨true, 2, [ePoint p]⟩ ∧ st.get ⟨67006003, s.next⟩ = some ⟨true, 2, (shift ps p (ps.length - m)).map ePoint⟩ ∧ (σ.next ≤ st.next ∧ (∀ j : Id, j.site / 1000000 ≠ 67 → j ≠ id → st.get j = σ.get j))) (ps.length - J) ⟨0, by omega, by omega, by (try simp only [go_sem, ↓reduceIte, Nat.reduceEqDiff, Nat.reduceAdd, Nat.reduceSub, Nat.reduceLeDiff, reduceCtorEq, h0, h3, h5, g0, g1, i1, i2, i1', i2', l2, l3, ePoint]); try rfl, by (try simp only [go_sem, ↓reduceIte, Nat.reduceEqDiff, Nat.reduceAdd, Nat.reduceSub, Nat.reduceLeDiff, reduceCtorEq, h0, h3, h5, g0, g1, i1, i2, i1', i2', l2, l3, ePoint]); try rfl, by (try simp only [go_sem, ↓reduceIte, Nat.reduceEqDiff, Nat.reduceAdd, Nat.reduceSub, Nat.reduceLeDiff, reduceCtorEq, h0, h3, h5, g0, g1, i1, i2, i1', i2', l2, l3, ePoint]); try rfl, ⟨by (try dsimp only); omega, fun j h1 h2 => by simp only [go_sem, ↓reduceIte, Nat.reduceEqDiff, Nat.reduceAdd, Nat.reduceSub, Nat.reduceLeDiff, reduceCtorEq, (ne j h1).1, (ne j h1).2.1, (ne j h1).2.2, h2, hfr j h1 h2]⟩⟩ ?_
      rintro n_b env_b st_b ⟨m, rfl, ble, b6, bg0, bg1, bI0⟩ bfr
      have b0 := bfr 0 (by kernel_rfl); have b3 := bfr 3 (by kernel_rfl); have b5 := bfr 5 (by kernel_rfl)
      simp only [go_sem, ↓reduceIte, Nat.reduceEqDiff, Nat.reduceAdd, Nat.reduceSub, Nat.reduceLeDiff, reduceCtorEq, h0, h3, h5, g0, g1, i1, i2, i1', i2', l2, l3, ePoint] at b0 b3 b5
      clear bfr
      clear h0 h3 h5 g0 g1 hnx hfr
      obtain ⟨hnx, hfr⟩ := bI0
      have hx : ∀ j : Id, j.site / 1000000 ≠ 67 → ¬ (j = ⟨67006003, s.next⟩) := fun j h => (ne j h).2.2 _
      by_cases hm : (J : Int) < ((ps.length - m : Nat) : Int)
      · have nextb : ∀ {e : Env} {gg : Rows} {nx : Nat}, (e 6 = .int .i64 ((ps.length - (m + 1) : Nat) : Int)) → (gg ⟨67000000, σ.next⟩ = some ⟨true, 2, [ePoint p]⟩) → (gg ⟨67006003, s.next⟩ = some ⟨true, 2, (shift ps p (ps.length - (m + 1))).map ePoint⟩) → (σ.next ≤ nx ∧ (∀ j : Id, j.site / 1000000 ≠ 67 → j ≠ id → gg j = σ.get j)) → ∃ m0, m0 < (ps.length - J) - m ∧ ∃ m : Nat, m0 = (ps.length - J) - m ∧ m ≤ (ps.length - J) ∧ e 6 = .int .i64 ((ps.length - m : Nat) : Int) ∧ gg ⟨67000000, σ.next⟩ = some ⟨true, 2, [ePoint p]⟩ ∧ gg ⟨67006003, s.next⟩ = some ⟨true, 2, (shift ps p (ps.length - m)).map ePoint⟩ ∧ (σ.next ≤ nx ∧ (∀ j : Id, j.site / 1000000 ≠ 67 → j ≠ id → gg j = σ.get j)) := fun x1 x2 x3 x4 => ⟨_, by omega, m + 1, rfl, by omega, x1, x2, x3, x4⟩
        have e1 : IntKind.i64.wrap (((ps.length - m : Nat) : Int) - 1) = ((ps.length - (m + 1) : Nat) : Int) := by rw [wrap_id (by omega)]; omega
        have e2 : ((ps.length - (m + 1) : Nat) : Int) < ((ps.length + 1 : Nat) : Int) := by omega
        have e3 : ((ps.length - m : Nat) : Int) < ((ps.length + 1 : Nat) : Int) := by omega
        have hsl := shift_len (ps := ps) (p := p) (i := ps.length - m) (by omega)
        have e4 : ((shift ps p (ps.length - m)).map ePoint)[ps.length - (m + 1)]? = some (ePoint (pAt ps (ps.length - (m + 1)))) := by rw [pAt_get (by omega), shift_get (by omega) (by omega)]
        have e5 : ((shift ps p (ps.length - m)).map ePoint)[ps.length - m]? = some (ePoint (pAt (shift ps p (ps.length - m)) (ps.length - m))) := pAt_get (by omega)
        have e6 : ((shift ps p (ps.length - m)).map ePoint).set (ps.length - m) [.int .i64 (pAt ps (ps.length - (m + 1))).g_X, .int .i64 (pAt ps (ps.length - (m + 1))).g_Y] = (shift ps p (ps.length - (m + 1))).map ePoint := by
          have := shift_set (ps := ps) (p := p) (i := ps.length - m) (by omega) (by omega)
          rw [show ps.length - m - 1 = ps.length - (m + 1) from by omega] at this
          rw [← this, ← set_map]; rfl
        (repeat (first | ((first | apply w_seq | apply w_reg); intro N hN) | ((first | (apply w_op; intro N hN) | apply w_condB); simp only [go_sem, ↓reduceIte, Nat.reduceEqDiff, Nat.reduceAdd, Nat.reduceSub, Nat.reduceLeDiff, reduceCtorEq, b6, bg0, bg1, b0, b3, b5, hm, e1, e2, e3, e4, e5, e6, ePoint]; first | (refine hN _ _ ?_; clear hN N) | (rfl; change wpv _ _ _ _ _) | skip) | (apply w_nil; refine hN _ _ ?_; clear hN N; try (simp only [seqQ, blockQ, ↓reduceIte, Nat.reduceEqDiff]); try (refine hN _ _ ?_; clear hN N)) | apply w_block | ((first | apply w_skip | apply w_exit | apply w_ret); try (simp only [seqQ, blockQ, ↓reduceIte, Nat.reduceEqDiff]); try (refine hN _ _ ?_; clear hN N)) | ((first | refine hN _ _ ?_ | (clear hN N; first | refine hN _ _ ?_ | (clear hN N; first | refine hN _ _ ?_ | (clear hN N; first | refine hN _ _ ?_ | (clear hN N; refine hN _ _ ?_))))); clear hN N)))
        refine nextb ?_ ?_ ?_ (⟨by (try dsimp only); omega, fun j h1 h2 => by simp only [go_sem, ↓reduceIte, Nat.reduceEqDiff, Nat.reduceAdd, Nat.reduceSub, Nat.reduceLeDiff, reduceCtorEq, hx j h1, hfr j h1 h2]⟩)
        all_goals simp only [go_sem, ↓reduceIte, Nat.reduceEqDiff, Nat.reduceAdd, Nat.reduceSub, Nat.reduceLeDiff, reduceCtorEq, b6, bg0, bg1, b0, b3, b5, e1, e6, ePoint]
      · have hmJ : ps.length - m = J := by omega
        rw [hmJ] at bg1
        have hsl := shift_len (ps := ps) (p := p) (i := J) (by omega)
        have e3 : (J : Int) < ((ps.length + 1 : Nat) : Int) := by omega
        have e5 : ((shift ps p J).map ePoint)[J]? = some (ePoint (pAt (shift ps p J) J)) := pAt_get (by omega)
        have e6 : ((shift ps p J).map ePoint).set J [.int .i64 p.g_X, .int .i64 p.g_Y] = (ps.take J ++ p :: ps.drop J).map ePoint := by rw [← shift_put hJ, ← set_map]; rfl
        (repeat (first | ((first | apply w_seq | apply w_reg); intro N hN) | ((first | (apply w_op; intro N hN) | apply w_condB); simp only [go_sem, ↓reduceIte, Nat.reduceEqDiff, Nat.reduceAdd, Nat.reduceSub, Nat.reduceLeDiff, reduceCtorEq, b6, bg0, bg1, b0, b3, b5, hm, e3, e5, e6, ePoint]; first | (refine hN _ _ ?_; clear hN N) | (rfl; change wpv _ _ _ _ _) | skip) | (apply w_nil; refine hN _ _ ?_; clear hN N; try (simp only [seqQ, blockQ, ↓reduceIte, Nat.reduceEqDiff]); try (refine hN _ _ ?_; clear hN N)) | apply w_block | ((first | apply w_skip | apply w_exit | apply w_ret); try (simp only [seqQ, blockQ, ↓reduceIte, Nat.reduceEqDiff]); try (refine hN _ _ ?_; clear hN N)) | ((first | refine hN _ _ ?_ | (clear hN N; first | refine hN _ _ ?_ | (clear hN N; first | refine hN _ _ ?_ | (clear hN N; first | refine hN _ _ ?_ | (clear hN N; refine hN _ _ ?_))))); clear hN N)))
        have hql : (ps.take J ++ p :: ps.drop J).length = ps.length + 1 := by simp; omega
        refine retO (vs := [.own ⟨67006003, s.next⟩ 0 (ps.length + 1)]) (.inl rfl) (by simp only [vresL, vres1, go_sem, ↓reduceIte, Nat.reduceEqDiff, Nat.reduceAdd, Nat.reduceSub, Nat.reduceLeDiff, reduceCtorEq, b6, bg0, bg1, b0, b3, b5]) ⟨ps.take J ++ p :: ps.drop J, ⟨67006003, s.next⟩, by rw [hql]; rfl, by simp only [go_sem, ↓reduceIte, Nat.reduceEqDiff, Nat.reduceAdd, Nat.reduceSub, Nat.reduceLeDiff, reduceCtorEq, e6], hs.put hJ hge hlt hne, put_mem J, by omega, .inr rfl, by (try dsimp only); omega, fun j h1 h2 => by simp only [go_sem, ↓reduceIte, Nat.reduceEqDiff, Nat.reduceAdd, Nat.reduceSub, Nat.reduceLeDiff, reduceCtorEq, hx j h1, hfr j h1 h2]⟩
    clear hN
    by_cases hJl : (J : Int) < (ps.length : Int)
    · have e3 : (ps.map ePoint)[J]? = some (ePoint (pAt ps J)) := pAt_get (by omega)
      cases he : (decide ((pAt ps J).g_X = p.g_X) && decide ((pAt ps J).g_Y = p.g_Y))
      · (repeat (first | ((first | apply w_seq | apply w_reg); intro N hN) | ((first | (apply w_op; intro N hN) | apply w_condB); simp only [go_sem, ↓reduceIte, Nat.reduceEqDiff, Nat.reduceAdd, Nat.reduceSub, Nat.reduceLeDiff, reduceCtorEq, h0, h3, h5, g0, g1, hJl, e3, he, ePoint]; first | (refine hN _ _ ?_; clear hN N) | (rfl; change wpv _ _ _ _ _) | skip) | (apply w_nil; refine hN _ _ ?_; clear hN N; try (simp only [seqQ, blockQ, ↓reduceIte, Nat.reduceEqDiff]); try (refine hN _ _ ?_; clear hN N)) | apply w_block | ((first | apply w_skip | apply w_exit | apply w_ret); try (simp only [seqQ, blockQ, ↓reduceIte, Nat.reduceEqDiff]); try (refine hN _ _ ?_; clear hN N)) | ((first | refine hN _ _ ?_ | (clear hN N; first | refine hN _ _ ?_ | (clear hN N; first | refine hN _ _ ?_ | (clear hN N; first | refine hN _ _ ?_ | (clear hN N; refine hN _ _ ?_))))); clear hN N)))
        refine fin2 (fun hi hc => ?_) (by simp only [go_sem, ↓reduceIte, Nat.reduceEqDiff, Nat.reduceAdd, Nat.reduceSub, Nat.reduceLeDiff, reduceCtorEq, h0]) (by simp only [go_sem, ↓reduceIte, Nat.reduceEqDiff, Nat.reduceAdd, Nat.reduceSub, Nat.reduceLeDiff, reduceCtorEq, h3]) (by simp only [go_sem, ↓reduceIte, Nat.reduceEqDiff, Nat.reduceAdd, Nat.reduceSub, Nat.reduceLeDiff, reduceCtorEq, h5]) (by simp only [go_sem, ↓reduceIte, Nat.reduceEqDiff, Nat.reduceAdd, Nat.reduceSub, Nat.reduceLeDiff, reduceCtorEq, g0, ePoint]) (by simp only [go_sem, ↓reduceIte, Nat.reduceEqDiff, Nat.reduceAdd, Nat.reduceSub, Nat.reduceLeDiff, reduceCtorEq, g1]) (by (try dsimp only); omega) hfr
        rw [pt_eq, pAt_eq hi, hc] at he
        simp at he
      · (repeat (first | ((first | apply w_seq | apply w_reg); intro N hN) | ((first | (apply w_op; intro N hN) | apply w_condB); simp only [go_sem, ↓reduceIte, Nat.reduceEqDiff, Nat.reduceAdd, Nat.reduceSub, Nat.reduceLeDiff, reduceCtorEq, h0, h3, h5, g0, g1, hJl, e3, he, ePoint]; first | (refine hN _ _ ?_; clear hN N) | (rfl; change wpv _ _ _ _ _) | skip) | (apply w_nil; refine hN _ _ ?_; clear hN N; try (simp only [seqQ, blockQ, ↓reduceIte, Nat.reduceEqDiff]); try (refine hN _ _ ?_; clear hN N)) | apply w_block | ((first | apply w_skip | apply w_exit | apply w_ret); try (simp only [seqQ, blockQ, ↓reduceIte, Nat.reduceEqDiff]); try (refine hN _ _ ?_; clear hN N)) | ((first | refine hN _ _ ?_ | (clear hN N; first | refine hN _ _ ?_ | (clear hN N; first | refine hN _ _ ?_ | (clear hN N; first | refine hN _ _ ?_ | (clear hN N; refine hN _ _ ?_))))); clear hN N)))
        rw [pt_eq, decide_eq_true_eq, pAt_eq (by omega)] at he
        refine retO (vs := [.own id 0 ps.length]) (.inl rfl) (by simp only [vresL, vres1, go_sem, ↓reduceIte, Nat.reduceEqDiff, Nat.reduceAdd, Nat.reduceSub, Nat.reduceLeDiff, reduceCtorEq]) ⟨ps, id, rfl, g1, hs, fun x => ⟨.inl, fun h => ?_⟩, by omega, .inl rfl, by (try dsimp only); omega, hfr⟩
        rcases h with h | h
        · exact h
        · rw [h, ← he]; exact List.getElem_mem _
    · (repeat (first | ((first | apply w_seq | apply w_reg); intro N hN) | ((first | (apply w_op; intro N hN) | apply w_condB); simp only [go_sem, ↓reduceIte, Nat.reduceEqDiff, Nat.reduceAdd, Nat.reduceSub, Nat.reduceLeDiff, reduceCtorEq, h0, h3, h5, g0, g1, hJl]; first | (refine hN _ _ ?_; clear hN N) | (rfl; change wpv _ _ _ _ _) | skip) | (apply w_nil; refine hN _ _ ?_; clear hN N; try (simp only [seqQ, blockQ, ↓reduceIte, Nat.reduceEqDiff]); try (refine hN _ _ ?_; clear hN N)) | apply w_block | ((first | apply w_skip | apply w_exit | apply w_ret); try (simp only [seqQ, blockQ, ↓reduceIte, Nat.reduceEqDiff]); try (refine hN _ _ ?_; clear hN N)) | ((first | refine hN _ _ ?_ | (clear hN N; first | refine hN _ _ ?_ | (clear hN N; first | refine hN _ _ ?_ | (clear hN N; first | refine hN _ _ ?_ | (clear hN N; refine hN _ _ ?_))))); clear hN N)))
      exact fin2 (fun hi => by omega) (by simp only [go_sem, ↓reduceIte, Nat.reduceEqDiff, Nat.reduceAdd, Nat.reduceSub, Nat.reduceLeDiff, reduceCtorEq, h0]) (by simp only [go_sem, ↓reduceIte, Nat.reduceEqDiff, Nat.reduceAdd, Nat.reduceSub, Nat.reduceLeDiff, reduceCtorEq, h3]) (by simp only [go_sem, ↓reduceIte, Nat.reduceEqDiff, Nat.reduceAdd, Nat.reduceSub, Nat.reduceLeDiff, reduceCtorEq, h5]) (by simp only [go_sem, ↓reduceIte, Nat.reduceEqDiff, Nat.reduceAdd, Nat.reduceSub, Nat.reduceLeDiff, reduceCtorEq, g0, ePoint]) (by simp only [go_sem, ↓reduceIte, Nat.reduceEqDiff, Nat.reduceAdd, Nat.reduceSub, Nat.reduceLeDiff, reduceCtorEq, g1]) (by (try dsimp only); omega) hfr
  clear hN
  have hbelow : ∀ i (hi : i < ps.length), ps.length - k ≤ i → ltB ps[i] p = false := fun i hi h => by
    have := aA0 (ps.length - 1 - i) (by omega)
    rw [show ps.length - 1 - (ps.length - 1 - i) = i from by omega, pAt_eq hi] at this
    exact this
  obtain ⟨hnx, hfr⟩ := aI0
  by_cases hk : (0 : Int) < ((ps.length - k : Nat) : Int)
  · have nexta : ∀ {e : Env} {gg : Rows} {nx : Nat}, (e 5 = .int .i64 ((ps.length - (k + 1) : Nat) : Int)) → (gg ⟨67000000, σ.next⟩ = some ⟨true, 2, [ePoint p]⟩) → (gg id = some ⟨true, 2, ps.map ePoint⟩) → (σ.next ≤ nx ∧ (∀ j : Id, j.site / 1000000 ≠ 67 → j ≠ id → gg j = σ.get j)) → (ltB (pAt ps (ps.length - 1 - k)) p = false) → ∃ m0, m0 < (ps.length) - k ∧ ∃ k : Nat, m0 = (ps.length) - k ∧ k ≤ (ps.length) ∧ e 5 = .int .i64 ((ps.length - k : Nat) : Int) ∧ gg ⟨67000000, σ.next⟩ = some ⟨true, 2, [ePoint p]⟩ ∧ gg id = some ⟨true, 2, ps.map ePoint⟩ ∧ (σ.next ≤ nx ∧ (∀ j : Id, j.site / 1000000 ≠ 67 → j ≠ id → gg j = σ.get j)) ∧ (∀ j : Nat, j < k → ltB (pAt ps (ps.length - 1 - j)) p = false) := fun x1 x2 x3 x4 x5 => ⟨_, by omega, k + 1, rfl, by omega, x1, x2, x3, x4, (all_succ aA0 x5)⟩
    have e1 : IntKind.i64.wrap (((ps.length - k : Nat) : Int) - 1) = ((ps.length - (k + 1) : Nat) : Int) := by rw [wrap_id (by omega)]; omega
    have e2 : ((ps.length - (k + 1) : Nat) : Int) < (ps.length : Int) := by omega
    have e3 : (ps.map ePoint)[ps.length - (k + 1)]? = some (ePoint (pAt ps (ps.length - (k + 1)))) := pAt_get (by omega)
    cases hl : ltB (pAt ps (ps.length - (k + 1))) p
    · (repeat (first | ((first | apply w_seq | apply w_reg); intro N hN) | ((first | (apply w_op; intro N hN) | apply w_condB); simp only [go_sem, ↓reduceIte, Nat.reduceEqDiff, Nat.reduceAdd, Nat.reduceSub, Nat.reduceLeDiff, reduceCtorEq, a5, ag0, ag1, a0, a3, hk, e1, e2, e3, hl, ePoint]; first | (refine hN _ _ ?_; clear hN N) | (rfl; change wpv _ _ _ _ _) | skip) | (apply w_nil; refine hN _ _ ?_; clear hN N; try (simp only [seqQ, blockQ, ↓reduceIte, Nat.reduceEqDiff]); try (refine hN _ _ ?_; clear hN N)) | apply w_block | ((first | apply w_skip | apply w_exit | apply w_ret); try (simp only [seqQ, blockQ, ↓reduceIte, Nat.reduceEqDiff]); try (refine hN _ _ ?_; clear hN N)) | ((first | refine hN _ _ ?_ | (clear hN N; first | refine hN _ _ ?_ | (clear hN N; first | refine hN _ _ ?_ | (clear hN N; first | refine hN _ _ ?_ | (clear hN N; refine hN _ _ ?_))))); clear hN N) | (refine .inl ⟨_, Ret.x (sLess_v (pAt ps (ps.length - (k + 1))) p) _, ?_⟩; refine hN _ _ ?_; clear hN N)))
      refine nexta ?_ ?_ ?_ (⟨by (try dsimp only); omega, hfr⟩) (by rw [show ps.length - 1 - k = ps.length - (k + 1) from by omega]; exact hl)
      all_goals simp only [go_sem, ↓reduceIte, Nat.reduceEqDiff, Nat.reduceAdd, Nat.reduceSub, Nat.reduceLeDiff, reduceCtorEq, a5, ag0, ag1, a0, a3, e1, ePoint]
    · (repeat (first | ((first | apply w_seq | apply w_reg); intro N hN) | ((first | (apply w_op; intro N hN) | apply w_condB); simp only [go_sem, ↓reduceIte, Nat.reduceEqDiff, Nat.reduceAdd, Nat.reduceSub, Nat.reduceLeDiff, reduceCtorEq, a5, ag0, ag1, a0, a3, hk, e1, e2, e3, hl, ePoint]; first | (refine hN _ _ ?_; clear hN N) | (rfl; change wpv _ _ _ _ _) | skip) | (apply w_nil; refine hN _ _ ?_; clear hN N; try (simp only [seqQ, blockQ, ↓reduceIte, Nat.reduceEqDiff]); try (refine hN _ _ ?_; clear hN N)) | apply w_block | ((first | apply w_skip | apply w_exit | apply w_ret); try (simp only [seqQ, blockQ, ↓reduceIte, Nat.reduceEqDiff]); try (refine hN _ _ ?_; clear hN N)) | ((first | refine hN _ _ ?_ | (clear hN N; first | refine hN _ _ ?_ | (clear hN N; first | refine hN _ _ ?_ | (clear hN N; first | refine hN _ _ ?_ | (clear hN N; refine hN _ _ ?_))))); clear hN N) | (refine .inl ⟨_, Ret.x (sLess_v (pAt ps (ps.length - (k + 1))) p) _, ?_⟩; refine hN _ _ ?_; clear hN N)))
      refine fin (ps.length - k) (by omega) hbelow (fun i hi hij => ?_) (by simp only [go_sem, ↓reduceIte, Nat.reduceEqDiff, Nat.reduceAdd, Nat.reduceSub, Nat.reduceLeDiff, reduceCtorEq, a5, ag0, ag1, a0, a3]) (by simp only [go_sem, ↓reduceIte, Nat.reduceEqDiff, Nat.reduceAdd, Nat.reduceSub, Nat.reduceLeDiff, reduceCtorEq, a5, ag0, ag1, a0, a3]) (by simp only [go_sem, ↓reduceIte, Nat.reduceEqDiff, Nat.reduceAdd, Nat.reduceSub, Nat.reduceLeDiff, reduceCtorEq, a5, ag0, ag1, a0, a3]) (by simp only [go_sem, ↓reduceIte, Nat.reduceEqDiff, Nat.reduceAdd, Nat.reduceSub, Nat.reduceLeDiff, reduceCtorEq, a5, ag0, ag1, a0, a3, ePoint]) (by simp only [go_sem, ↓reduceIte, Nat.reduceEqDiff, Nat.reduceAdd, Nat.reduceSub, Nat.reduceLeDiff, reduceCtorEq, a5, ag0, ag1, a0, a3]) (by (try dsimp only); omega) hfr
      rw [pAt_eq (by omega)] at hl
      rcases Nat.lt_or_ge i (ps.length - (k + 1)) with h | h
      · exact ltB_trans (hs.get h (by omega)) hl
      · have : i = ps.length - (k + 1) := by omega
        subst this; exact hl
  · (repeat (first | ((first | apply w_seq | apply w_reg); intro N hN) | ((first | (apply w_op; intro N hN) | apply w_condB); simp only [go_sem, ↓reduceIte, Nat.reduceEqDiff, Nat.reduceAdd, Nat.reduceSub, Nat.reduceLeDiff, reduceCtorEq, a5, ag0, ag1, a0, a3, hk]; first | (refine hN _ _ ?_; clear hN N) | (rfl; change wpv _ _ _ _ _) | skip) | (apply w_nil; refine hN _ _ ?_; clear hN N; try (simp only [seqQ, blockQ, ↓reduceIte, Nat.reduceEqDiff]); try (refine hN _ _ ?_; clear hN N)) | apply w_block | ((first | apply w_skip | apply w_exit | apply w_ret); try (simp only [seqQ, blockQ, ↓reduceIte, Nat.reduceEqDiff]); try (refine hN _ _ ?_; clear hN N)) | ((first | refine hN _ _ ?_ | (clear hN N; first | refine hN _ _ ?_ | (clear hN N; first | refine hN _ _ ?_ | (clear hN N; first | refine hN _ _ ?_ | (clear hN N; refine hN _ _ ?_))))); clear hN N)))
    refine fin (ps.length - k) (by omega) hbelow (fun i hi hij => by omega) (by simp only [go_sem, ↓reduceIte, Nat.reduceEqDiff, Nat.reduceAdd, Nat.reduceSub, Nat.reduceLeDiff, reduceCtorEq, a5, ag0, ag1, a0, a3]) (by simp only [go_sem, ↓reduceIte, Nat.reduceEqDiff, Nat.reduceAdd, Nat.reduceSub, Nat.reduceLeDiff, reduceCtorEq, a5, ag0, ag1, a0, a3]) (by simp only [go_sem, ↓reduceIte, Nat.reduceEqDiff, Nat.reduceAdd, Nat.reduceSub, Nat.reduceLeDiff, reduceCtorEq, a5, ag0, ag1, a0, a3]) (by simp only [go_sem, ↓reduceIte, Nat.reduceEqDiff, Nat.reduceAdd, Nat.reduceSub, Nat.reduceLeDiff, reduceCtorEq, a5, ag0, ag1, a0, a3, ePoint]) (by simp only [go_sem, ↓reduceIte, Nat.reduceEqDiff, Nat.reduceAdd, Nat.reduceSub, Nat.reduceLeDiff, reduceCtorEq, a5, ag0, ag1, a0, a3]) (by (try dsimp only); omega) hfr

end Go.Proofs.YtpbniieiinhliaaGreat.V

namespace Go.Proofs.YtpbniieiinhliaaGreat.V
open Go.RowKit
attribute [local irreducible] wpv wpOps

def noEv : D_SignalEvent := ⟨0, ⟨0, 0⟩, 0⟩
def eA (l : List D_SignalEvent) (k : Nat) : D_SignalEvent := l.getD k noEv
theorem eA_get {l : List D_SignalEvent} {k : Nat} (h : k < l.length) : (l.map eEvent)[k]? = some (eEvent (eA l k)) := get_map eEvent h
/-- A cell's events, possible or not: the first m fires. -/
def allK (c : D_SignalCell) (m : Nat) : List D_SignalEvent := [⟨2, c.g_At, 0⟩, ⟨2, c.g_At, 1⟩] ++ (List.range m).map fun (k : Nat) => ⟨3, c.g_At, k⟩
theorem allK_len (c : D_SignalCell) (m : Nat) : (allK c m).length = 2 + m := by simp [allK]; omega
theorem allK_succ (c : D_SignalCell) (m : Nat) : allK c m ++ [⟨3, c.g_At, m⟩] = allK c (m + 1) := by simp [allK, List.range_succ]
def canB (s : D_SignalSet) (cells : List D_SignalCell) (c : D_SignalCell) (e : D_SignalEvent) : Bool := if e.g_Kind = 2 then bindB s cells c e.g_Num else fireB s c e.g_Num.toNat
def cellEvs (s : D_SignalSet) (cells : List D_SignalCell) (c : D_SignalCell) : List D_SignalEvent := (allK c c.g_Fired.length).filter (canB s cells c)
def attB (s : D_SignalSet) (temp : Int) (cells : List D_SignalCell) (p : D_Point) (k : Nat) : Bool := decide (temp ≤ strN s cells p (tileAt s k) 4)
/-- Attachments at a place: of the first m tiles. -/
def attN (s : D_SignalSet) (temp : Int) (cells : List D_SignalCell) (p : D_Point) (m : Nat) : List D_SignalEvent := ((List.range m).filter (attB s temp cells p)).map fun (k : Nat) => ⟨1, p, k⟩
def evsN (s : D_SignalSet) (cells : List D_SignalCell) (i : Nat) : List D_SignalEvent := (cells.take i).flatMap (cellEvs s cells)
def attsN (s : D_SignalSet) (temp : Int) (cells : List D_SignalCell) (ps : List D_Point) (q : Nat) : List D_SignalEvent := (ps.take q).flatMap fun p => attN s temp cells p s.g_Tiles.length
def eventsL (s : D_SignalSet) (temp : Int) (cells : List D_SignalCell) (ps : List D_Point) : List D_SignalEvent := evsN s cells cells.length ++ attsN s temp cells ps ps.length
def goodP (cells : List D_SignalCell) (x : D_Point) : Prop := ptB x = true ∧ ¬ idxN cells x < cells.length
/-- Free and valid, next to one of the first i cells, or in one of the first m directions from the next one. -/
def nearN (cells : List D_SignalCell) (i m : Nat) (x : D_Point) : Prop := goodP cells x ∧ ((∃ j d : Nat, j < i ∧ d < 4 ∧ stepP (cellAt cells j).g_At d = x) ∨ (∃ d : Nat, d < m ∧ stepP (cellAt cells i).g_At d = x))
theorem nearN_next {cells : List D_SignalCell} {i : Nat} {x : D_Point} : nearN cells i 4 x ↔ nearN cells (i + 1) 0 x := by
  unfold nearN
  constructor
  · rintro ⟨hg, ⟨j, d, hj, hd, h⟩ | ⟨d, hd, h⟩⟩
    · exact ⟨hg, .inl ⟨j, d, by omega, hd, h⟩⟩
    · exact ⟨hg, .inl ⟨i, d, by omega, hd, h⟩⟩
  · rintro ⟨hg, ⟨j, d, hj, hd, h⟩ | ⟨d, hd, h⟩⟩
    · refine ⟨hg, ?_⟩
      by_cases hji : j = i
      · subst hji; exact .inr ⟨d, hd, h⟩
      · exact .inl ⟨j, d, by omega, hd, h⟩
    · omega
theorem nearN_yes {cells : List D_SignalCell} {i m : Nat} {x : D_Point} (hg : goodP cells (stepP (cellAt cells i).g_At m)) : nearN cells i (m + 1) x ↔ nearN cells i m x ∨ x = stepP (cellAt cells i).g_At m := by
  unfold nearN
  constructor
  · rintro ⟨h, k | ⟨d, hd, k⟩⟩
    · exact .inl ⟨h, .inl k⟩
    · by_cases hdm : d = m
      · subst hdm; exact .inr k.symm
      · exact .inl ⟨h, .inr ⟨d, by omega, k⟩⟩
  · rintro (⟨h, k | ⟨d, hd, k⟩⟩ | rfl)
    · exact ⟨h, .inl k⟩
    · exact ⟨h, .inr ⟨d, by omega, k⟩⟩
    · exact ⟨hg, .inr ⟨m, by omega, rfl⟩⟩
theorem nearN_no {cells : List D_SignalCell} {i m : Nat} {x : D_Point} (hg : ¬ goodP cells (stepP (cellAt cells i).g_At m)) : nearN cells i (m + 1) x ↔ nearN cells i m x := by
  unfold nearN
  constructor
  · rintro ⟨h, k | ⟨d, hd, k⟩⟩
    · exact ⟨h, .inl k⟩
    · by_cases hdm : d = m
      · subst hdm; rw [k] at hg; exact absurd h hg
      · exact ⟨h, .inr ⟨d, by omega, k⟩⟩
  · rintro ⟨h, k | ⟨d, hd, k⟩⟩
    · exact ⟨h, .inl k⟩
    · exact ⟨h, .inr ⟨d, by omega, k⟩⟩
theorem filter_take_yes {α : Type} {l : List α} {p : α → Bool} {k : Nat} {d : α} (h : k < l.length) (hp : p (l.getD k d) = true) : (l.take (k + 1)).filter p = (l.take k).filter p ++ [l.getD k d] := by
  have e : l.getD k d = l[k] := by simp [List.getD_eq_getElem?_getD, h]
  rw [e] at hp ⊢
  rw [List.take_succ_eq_append_getElem h, List.filter_append]; simp [hp]
theorem filter_take_no {α : Type} {l : List α} {p : α → Bool} {k : Nat} {d : α} (h : k < l.length) (hp : p (l.getD k d) = false) : (l.take (k + 1)).filter p = (l.take k).filter p := by
  have e : l.getD k d = l[k] := by simp [List.getD_eq_getElem?_getD, h]
  rw [e] at hp
  rw [List.take_succ_eq_append_getElem h, List.filter_append]; simp [hp]
theorem attN_yes {s : D_SignalSet} {temp : Int} {cells : List D_SignalCell} {p : D_Point} {m : Nat} (h : attB s temp cells p m = true) : attN s temp cells p (m + 1) = attN s temp cells p m ++ [⟨1, p, m⟩] := by
  simp [attN, List.range_succ, h]
theorem attN_no {s : D_SignalSet} {temp : Int} {cells : List D_SignalCell} {p : D_Point} {m : Nat} (h : attB s temp cells p m = false) : attN s temp cells p (m + 1) = attN s temp cells p m := by
  simp [attN, List.range_succ, h]
theorem evsN_succ {s : D_SignalSet} {cells : List D_SignalCell} {i : Nat} (h : i < cells.length) : evsN s cells i ++ cellEvs s cells (cellAt cells i) = evsN s cells (i + 1) := by
  rw [evsN, evsN, List.take_succ_eq_append_getElem h, List.flatMap_append, cellAt_eq h]; simp
theorem attsN_succ {s : D_SignalSet} {temp : Int} {cells : List D_SignalCell} {ps : List D_Point} {q : Nat} (h : q < ps.length) : attsN s temp cells ps q ++ attN s temp cells (pAt ps q) s.g_Tiles.length = attsN s temp cells ps (q + 1) := by
  rw [attsN, attsN, List.take_succ_eq_append_getElem h, List.flatMap_append, pAt_eq h]; simp
theorem attN_len (s : D_SignalSet) (temp : Int) (cells : List D_SignalCell) (p : D_Point) (m : Nat) : (attN s temp cells p m).length ≤ m := by
  rw [attN, List.length_map]
  exact Nat.le_trans (List.length_filter_le _ _) (by simp)
theorem cellEvs_len (s : D_SignalSet) (cells : List D_SignalCell) (c : D_SignalCell) : (cellEvs s cells c).length ≤ 2 + c.g_Fired.length := by
  rw [cellEvs, ← allK_len c]; exact List.length_filter_le _ _
theorem evsN_len {s : D_SignalSet} {cells : List D_SignalCell} (h : ∀ c ∈ cells, c.g_Fired.length ≤ 6) : ∀ i, i ≤ cells.length → (evsN s cells i).length ≤ 8 * i
  | 0, _ => by simp [evsN]
  | i + 1, hi => by
    rw [← evsN_succ (by omega), List.length_append]
    have := evsN_len (s := s) h i (by omega)
    have h2 := cellEvs_len s cells (cellAt cells i)
    have h3 := h (cellAt cells i) (by rw [cellAt_eq (by omega)]; exact List.getElem_mem _)
    omega
theorem attsN_len {s : D_SignalSet} {temp : Int} {cells : List D_SignalCell} {ps : List D_Point} : ∀ q, q ≤ ps.length → (attsN s temp cells ps q).length ≤ q * s.g_Tiles.length
  | 0, _ => by simp [attsN]
  | q + 1, hq => by
    rw [← attsN_succ (by omega), List.length_append, Nat.add_mul]
    have := attsN_len (s := s) (temp := temp) (cells := cells) (ps := ps) q (by omega)
    have h2 := attN_len s temp cells (pAt ps q) s.g_Tiles.length
    omega

theorem l31CanAll_v (s : D_SignalSet) (temp : Int) (cells : List D_SignalCell) (i : Nat) (hi : i < cells.length) (k : Nat) (hk : k < (allK (cellAt cells i) (cellAt cells i).g_Fired.length).length) (hix : idxN cells (cellAt cells i).g_At = i) (hS : SetForm s) (hF : ∀ c ∈ cells, FormOk s c) :
    RetS Tryz.prog 45 [.iptr (eSet s), .int .i64 temp, .sl (cells.map eCell), .agg (eEvent (eA (allK (cellAt cells i) (cellAt cells i).g_Fired.length) k))] (.bool (canB s cells (cellAt cells i) (eA (allK (cellAt cells i) (cellAt cells i).g_Fired.length) k))) := by
  rw [cellAt_eq hi] at *
  match k, hk with
  | 0, _ => exact l31CanBind_v s temp cells i hi 0 (.inl rfl) hix hS hF
  | 1, _ => exact l31CanBind_v s temp cells i hi 1 (.inr rfl) hix hS hF
  | k + 2, hk =>
    have hk' : k < cells[i].g_Fired.length := by rw [allK_len] at hk; omega
    have e : eA (allK cells[i] cells[i].g_Fired.length) (k + 2) = ⟨3, cells[i].g_At, k⟩ := by
      simp [eA, allK, List.getD_eq_getElem?_getD, hk']
    rw [e]
    have := l31CanFire_v s temp cells i hi k hk' hix hS hF
    rw [show canB s cells cells[i] ⟨3, cells[i].g_At, k⟩ = fireB s cells[i] k from by simp [canB]]
    exact this

theorem sym_false {α : Type} {a b : α} (h : (a = b) = False) : (b = a) = False := by
  simp only [eq_iff_iff, iff_false] at *; exact fun e => h e.symm
def OutSite (o : Id) : Prop := o.site = 32001000 ∨ o.site = 32015006 ∨ o.site = 32030003
def NearSite (o : Id) : Prop := o.site = 32002000 ∨ o.site = 67006003
def AllSite (o : Id) : Prop := o.site = 32006012 ∨ o.site = 32010009
theorem OutSite.ne {o : Id} (h : OutSite o) (s v : Nat) (h1 : ¬ (s = 32001000)) (h2 : ¬ (s = 32015006)) (h3 : ¬ (s = 32030003)) : (o = ⟨s, v⟩) = False := by
  simp only [eq_iff_iff, iff_false]; rintro rfl; rcases h with h | h | h <;> simp_all
theorem OutSite.ne' {o : Id} (h : OutSite o) (s v : Nat) (h1 : ¬ (s = 32001000)) (h2 : ¬ (s = 32015006)) (h3 : ¬ (s = 32030003)) : (⟨s, v⟩ = o) = False := sym_false (h.ne s v h1 h2 h3)
theorem NearSite.ne {o : Id} (h : NearSite o) (s v : Nat) (h1 : ¬ (s = 32002000)) (h2 : ¬ (s = 67006003)) : (o = ⟨s, v⟩) = False := by
  simp only [eq_iff_iff, iff_false]; rintro rfl; rcases h with h | h <;> simp_all
theorem NearSite.ne' {o : Id} (h : NearSite o) (s v : Nat) (h1 : ¬ (s = 32002000)) (h2 : ¬ (s = 67006003)) : (⟨s, v⟩ = o) = False := sym_false (h.ne s v h1 h2)
theorem AllSite.ne {o : Id} (h : AllSite o) (s v : Nat) (h1 : ¬ (s = 32006012)) (h2 : ¬ (s = 32010009)) : (o = ⟨s, v⟩) = False := by
  simp only [eq_iff_iff, iff_false]; rintro rfl; rcases h with h | h <;> simp_all
theorem AllSite.ne' {o : Id} (h : AllSite o) (s v : Nat) (h1 : ¬ (s = 32006012)) (h2 : ¬ (s = 32010009)) : (⟨s, v⟩ = o) = False := sym_false (h.ne s v h1 h2)
theorem out_near {o n : Id} (h : OutSite o) (k : NearSite n) : (o = n) = False := by
  simp only [eq_iff_iff, iff_false]; rintro rfl; rcases h with h | h | h <;> rcases k with k | k <;> omega
theorem near_out {o n : Id} (h : OutSite o) (k : NearSite n) : (n = o) = False := sym_false (out_near h k)
theorem all_near {o n : Id} (h : AllSite o) (k : NearSite n) : (o = n) = False := by
  simp only [eq_iff_iff, iff_false]; rintro rfl; rcases h with h | h <;> rcases k with k | k <;> omega
theorem near_all {o n : Id} (h : AllSite o) (k : NearSite n) : (n = o) = False := sym_false (all_near h k)
theorem out_all {o n : Id} (h : OutSite o) (k : AllSite n) : (o = n) = False := by
  simp only [eq_iff_iff, iff_false]; rintro rfl; rcases h with h | h | h <;> rcases k with k | k <;> omega
theorem all_out {o n : Id} (h : OutSite o) (k : AllSite n) : (n = o) = False := sym_false (out_all h k)

end Go.Proofs.YtpbniieiinhliaaGreat.V

namespace Go.Proofs.YtpbniieiinhliaaGreat.V
open Go.RowKit
attribute [local irreducible] wpv wpOps
attribute [local go_sem] wantedV vop qop eop vis evO upd envOf K.av boxOf AV.cells AV.cell rowOf rowsOf part ld rowAt setR killR ibin vbin vsh vclear vsbin sbin eq1 eqL xorB vnil vnilS vnilF hiOf loOf vslice vsliceS viaddr vidxS vidxA vlen vnot vneg vconv vconvS vpick vchk vfield vextract vlenS fillV vmk rowsIn putCs vstore vappend seqQ blockQ most AV.undef callW List.getD_cons_zero List.getD_cons_succ List.getD_nil List.all_cons List.all_nil Bool.and_true Bool.true_and Bool.and_self Bool.not_true Bool.not_false Option.map_some Option.map_none Option.bind_some Option.bind_none List.length_cons List.length_nil List.take_succ_cons List.take_zero List.take_nil List.drop_succ_cons List.drop_zero List.drop_nil List.head?_cons List.map_cons List.map_nil List.getElem?_cons_zero List.getElem?_cons_succ List.cons_append List.nil_append List.append_nil List.length_map List.set_cons_zero List.set_cons_succ Nat.reduceMul eq_self Int.toNat_natCast Int.natCast_nonneg and_self true_and and_true decide_true decide_false Bool.false_eq_true Nat.zero_add Nat.add_zero List.contains_cons List.contains_nil Bool.or_false Bool.false_or beq_self_eq_true Nat.reduceBEq ne_eq not_true_eq_false not_false_eq_true Id.mk.injEq false_and and_false Nat.reduceLT Int.reduceLE Int.reduceLT Int.reduceToNat Int.reduceNeg Int.reduceAdd Nat.le_refl List.length_append beq_true beq_false Bool.not_eq_eq_eq_not rw_ fzRow_cons fzRow_nil fz_int fz_bool fz_str fz_sl fz_nils fz_agg fz_iptr fz_ptrE fz_fn fz_nilp fz_nilf fz_tup

def midE (s : D_SignalSet) (cells : List D_SignalCell) (i : Nat) (L : List D_SignalEvent) (k : Nat) : List D_SignalEvent := evsN s cells i ++ (L.take k).filter (canB s cells (cellAt cells i))
theorem midE_yes {s : D_SignalSet} {cells : List D_SignalCell} {i : Nat} {L : List D_SignalEvent} {k : Nat} (h : k < L.length) (hp : canB s cells (cellAt cells i) (eA L k) = true) : midE s cells i L (k + 1) = midE s cells i L k ++ [eA L k] := by
  rw [midE, midE, filter_take_yes h hp, List.append_assoc]; rfl
theorem midE_no {s : D_SignalSet} {cells : List D_SignalCell} {i : Nat} {L : List D_SignalEvent} {k : Nat} (h : k < L.length) (hp : canB s cells (cellAt cells i) (eA L k) = false) : midE s cells i L (k + 1) = midE s cells i L k := by
  rw [midE, midE, filter_take_no h hp]
theorem map_snoc (l : List D_SignalEvent) (e : D_SignalEvent) : l.map eEvent ++ [[.int .i64 e.g_Kind, .int .i64 e.g_At.g_X, .int .i64 e.g_At.g_Y, .int .i64 e.g_Num]] = (l ++ [e]).map eEvent := by simp [eEvent]
def endE (s : D_SignalSet) (temp : Int) (cells : List D_SignalCell) (ps : List D_Point) (q k : Nat) : List D_SignalEvent := evsN s cells cells.length ++ attsN s temp cells ps q ++ attN s temp cells (pAt ps q) k
theorem endE_yes {s : D_SignalSet} {temp : Int} {cells : List D_SignalCell} {ps : List D_Point} {q k : Nat} (h : attB s temp cells (pAt ps q) k = true) : endE s temp cells ps q (k + 1) = endE s temp cells ps q k ++ [⟨1, pAt ps q, k⟩] := by
  rw [endE, endE, attN_yes h]; simp
theorem endE_no {s : D_SignalSet} {temp : Int} {cells : List D_SignalCell} {ps : List D_Point} {q k : Nat} (h : attB s temp cells (pAt ps q) k = false) : endE s temp cells ps q (k + 1) = endE s temp cells ps q k := by
  rw [endE, endE, attN_no h]

set_option maxRecDepth 100000 in
set_option maxHeartbeats 4000000 in
theorem l31Events_v (s : D_SignalSet) (temp : Int) (cells : List D_SignalCell) (hS : SetForm s) (hSS : SetSides s) (hF : ∀ c ∈ cells, FormOk s c) (h80 : cells.length ≤ 80) (h160 : s.g_Tiles.length ≤ 160) (h6 : ∀ c ∈ cells, c.g_Fired.length ≤ 6)
    (hix : ∀ i, i < cells.length → idxN cells (cellAt cells i).g_At = i) (σ : Store) (b : Nat) (hb : σ.get ⟨8000000, b⟩ = some ⟨true, 2, [eSet s]⟩) :
    Call Tryz.prog 32 [.ptr ⟨8000000, b⟩ 0 0, .int .i64 temp, .sl (cells.map eCell)] σ fun r σ' => ∃ ps oid, r = .own oid 0 (eventsL s temp cells ps).length ∧ σ'.get oid = some ⟨true, 4, (eventsL s temp cells ps).map eEvent⟩ ∧ Ris ps ∧ ∀ x, x ∈ ps ↔ nearN cells cells.length 0 x := by
  refine CallB cf32 rfl fun hl => ?_
  try simp only [q]
  clear hl
  (repeat (first | ((first | apply w_seq | apply w_reg); intro N hN) | ((first | (apply w_op; intro N hN) | apply w_condB); simp only [go_sem, ↓reduceIte, Nat.reduceEqDiff, Nat.reduceAdd, Nat.reduceSub, Nat.reduceLeDiff, reduceCtorEq, hb]; first | (refine hN _ _ ?_; clear hN N) | (rfl; change wpv _ _ _ _ _) | skip) | (apply w_nil; refine hN _ _ ?_; clear hN N; try (simp only [seqQ, blockQ, ↓reduceIte, Nat.reduceEqDiff]); try (refine hN _ _ ?_; clear hN N)) | apply w_block | ((first | apply w_skip | apply w_exit | apply w_ret); try (simp only [seqQ, blockQ, ↓reduceIte, Nat.reduceEqDiff]); try (refine hN _ _ ?_; clear hN N)) | ((first | refine hN _ _ ?_ | (clear hN N; first | refine hN _ _ ?_ | (clear hN N; first | refine hN _ _ ?_ | (clear hN N; first | refine hN _ _ ?_ | (clear hN N; refine hN _ _ ?_))))); clear hN N)))
  refine w_loopF (fun n env st => ∃ i : Nat, n = (cells.length) - i ∧ i ≤ (cells.length) ∧ env 9 = .int .i64 (i : Int) ∧ st.get ⟨8000000, b⟩ = some ⟨true, 2, [eSet s]⟩ ∧ (∃ oid nid ps, env 7 = .own oid 0 (evsN s cells i).length ∧ env 8 = .own nid 0 ps.length ∧ st.get oid = some ⟨true, 4, (evsN s cells i).map eEvent⟩ ∧ st.get nid = some ⟨true, 2, ps.map ePoint⟩ ∧ OutSite oid ∧ NearSite nid ∧ Ris ps ∧ (∀ x, x ∈ ps ↔ nearN cells i 0 x) ∧ ps.length ≤ 4 * i)) (cells.length) ⟨0, by omega, by omega, by (try simp only [go_sem, ↓reduceIte, Nat.reduceEqDiff, Nat.reduceAdd, Nat.reduceSub, Nat.reduceLeDiff, reduceCtorEq, hb]); try rfl, by (try simp only [go_sem, ↓reduceIte, Nat.reduceEqDiff, Nat.reduceAdd, Nat.reduceSub, Nat.reduceLeDiff, reduceCtorEq, hb]); try rfl, ⟨⟨32001000, σ.next + 1⟩, ⟨32002000, σ.next + 1 + 1⟩, [], by simp only [go_sem, ↓reduceIte, Nat.reduceEqDiff, Nat.reduceAdd, Nat.reduceSub, Nat.reduceLeDiff, reduceCtorEq]; rfl, by simp only [go_sem, ↓reduceIte, Nat.reduceEqDiff, Nat.reduceAdd, Nat.reduceSub, Nat.reduceLeDiff, reduceCtorEq], by simp only [go_sem, ↓reduceIte, Nat.reduceEqDiff, Nat.reduceAdd, Nat.reduceSub, Nat.reduceLeDiff, reduceCtorEq]; rfl, by simp only [go_sem, ↓reduceIte, Nat.reduceEqDiff, Nat.reduceAdd, Nat.reduceSub, Nat.reduceLeDiff, reduceCtorEq], .inl rfl, .inl rfl, List.Pairwise.nil, fun x => by simp [nearN], by simp⟩⟩ ?_
  rintro n_a env_a st_a ⟨i, rfl, ale, a9, ag0, aI0⟩ afr
  have a0 := afr 0 (by kernel_rfl); have a1 := afr 1 (by kernel_rfl); have a2 := afr 2 (by kernel_rfl)
  simp only [go_sem, ↓reduceIte, Nat.reduceEqDiff, Nat.reduceAdd, Nat.reduceSub, Nat.reduceLeDiff, reduceCtorEq, hb] at a0 a1 a2
  clear afr
  by_cases hk : (i : Int) < (cells.length : Int)
  · have nexta : ∀ {e : Env} {gg : Rows}, (e 9 = .int .i64 (IntKind.i64.wrap ((i : Int) + 1))) → (gg ⟨8000000, b⟩ = some ⟨true, 2, [eSet s]⟩) → (∃ oid nid ps, e 7 = .own oid 0 (evsN s cells (i + 1)).length ∧ e 8 = .own nid 0 ps.length ∧ gg oid = some ⟨true, 4, (evsN s cells (i + 1)).map eEvent⟩ ∧ gg nid = some ⟨true, 2, ps.map ePoint⟩ ∧ OutSite oid ∧ NearSite nid ∧ Ris ps ∧ (∀ x, x ∈ ps ↔ nearN cells (i + 1) 0 x) ∧ ps.length ≤ 4 * (i + 1)) → ∃ m0, m0 < (cells.length) - i ∧ ∃ i : Nat, m0 = (cells.length) - i ∧ i ≤ (cells.length) ∧ e 9 = .int .i64 (i : Int) ∧ gg ⟨8000000, b⟩ = some ⟨true, 2, [eSet s]⟩ ∧ (∃ oid nid ps, e 7 = .own oid 0 (evsN s cells i).length ∧ e 8 = .own nid 0 ps.length ∧ gg oid = some ⟨true, 4, (evsN s cells i).map eEvent⟩ ∧ gg nid = some ⟨true, 2, ps.map ePoint⟩ ∧ OutSite oid ∧ NearSite nid ∧ Ris ps ∧ (∀ x, x ∈ ps ↔ nearN cells i 0 x) ∧ ps.length ≤ 4 * i) := fun x1 x2 x3 => ⟨_, by omega, i + 1, rfl, by omega, (by rw [x1, wrap_succ2 (by omega)]), x2, x3⟩
    obtain ⟨oid, nid, ps, a7, a8, ao, an, hO, hNs, hR, hP, hL⟩ := aI0
    have hi : i < cells.length := by omega
    have hcm : cellAt cells i ∈ cells := by rw [cellAt_eq hi]; exact List.getElem_mem _
    have hgi : (cells.map eCell)[i]? = some (eCell (cellAt cells i)) := get_map eCell hi
    have fi := hF _ hcm
    obtain ⟨bx, by_⟩ := iB_of fi.at_
    have hf6 := h6 _ hcm
    have hev := evsN_len (s := s) h6 i (by omega)
    have x1 := hO.ne
    have x2 := hO.ne'
    have x3 := hNs.ne
    have x4 := hNs.ne'
    have x5 := out_near hO hNs
    have x6 := near_out hO hNs
    (repeat (first | ((first | apply w_seq | apply w_reg); intro N hN) | ((first | (apply w_op; intro N hN) | apply w_condB); simp only [go_sem, ↓reduceIte, Nat.reduceEqDiff, Nat.reduceAdd, Nat.reduceSub, Nat.reduceLeDiff, reduceCtorEq, a9, ag0, a0, a1, a2, a7, a8, hk, hgi, eCell, ePoint]; first | (refine hN _ _ ?_; clear hN N) | (rfl; change wpv _ _ _ _ _) | skip) | (apply w_nil; refine hN _ _ ?_; clear hN N; try (simp only [seqQ, blockQ, ↓reduceIte, Nat.reduceEqDiff]); try (refine hN _ _ ?_; clear hN N)) | apply w_block | ((first | apply w_skip | apply w_exit | apply w_ret); try (simp only [seqQ, blockQ, ↓reduceIte, Nat.reduceEqDiff]); try (refine hN _ _ ?_; clear hN N)) | ((first | refine hN _ _ ?_ | (clear hN N; first | refine hN _ _ ?_ | (clear hN N; first | refine hN _ _ ?_ | (clear hN N; first | refine hN _ _ ?_ | (clear hN N; refine hN _ _ ?_))))); clear hN N)))
    refine w_loopF (fun n env st => ∃ k : Nat, n = ((cellAt cells i).g_Fired.length) - k ∧ k ≤ ((cellAt cells i).g_Fired.length) ∧ env 11 = .int .i64 (k : Int) ∧ st.get ⟨8000000, b⟩ = some ⟨true, 2, [eSet s]⟩ ∧ st.get oid = some ⟨true, 4, (evsN s cells i).map eEvent⟩ ∧ st.get nid = some ⟨true, 2, ps.map ePoint⟩ ∧ (∃ aid, env 10 = .own aid 0 (2 + k) ∧ st.get aid = some ⟨true, 4, (allK (cellAt cells i) k).map eEvent⟩ ∧ AllSite aid)) ((cellAt cells i).g_Fired.length) ⟨0, by omega, by omega, by (try simp only [go_sem, ↓reduceIte, Nat.reduceEqDiff, Nat.reduceAdd, Nat.reduceSub, Nat.reduceLeDiff, reduceCtorEq, a9, ag0, a0, a1, a2, a7, a8, ao, an, x1, x2, x3, x4]); try rfl, by (try simp only [go_sem, ↓reduceIte, Nat.reduceEqDiff, Nat.reduceAdd, Nat.reduceSub, Nat.reduceLeDiff, reduceCtorEq, a9, ag0, a0, a1, a2, a7, a8, ao, an, x1, x2, x3, x4]); try rfl, by (try simp only [go_sem, ↓reduceIte, Nat.reduceEqDiff, Nat.reduceAdd, Nat.reduceSub, Nat.reduceLeDiff, reduceCtorEq, a9, ag0, a0, a1, a2, a7, a8, ao, an, x1, x2, x3, x4]); try rfl, by (try simp only [go_sem, ↓reduceIte, Nat.reduceEqDiff, Nat.reduceAdd, Nat.reduceSub, Nat.reduceLeDiff, reduceCtorEq, a9, ag0, a0, a1, a2, a7, a8, ao, an, x1, x2, x3, x4]); try rfl, ⟨⟨32006012, st_a.next + 1⟩, by simp only [go_sem, ↓reduceIte, Nat.reduceEqDiff, Nat.reduceAdd, Nat.reduceSub, Nat.reduceLeDiff, reduceCtorEq], by (simp only [go_sem, ↓reduceIte, Nat.reduceEqDiff, Nat.reduceAdd, Nat.reduceSub, Nat.reduceLeDiff, reduceCtorEq]) <;> rfl, .inl rfl⟩⟩ ?_
    rintro n_b env_b st_b ⟨k, rfl, ble, b11, bg0, bg1, bg2, bI0⟩ bfr
    have b0 := bfr 0 (by kernel_rfl); have b1 := bfr 1 (by kernel_rfl); have b2 := bfr 2 (by kernel_rfl); have b7 := bfr 7 (by kernel_rfl); have b8 := bfr 8 (by kernel_rfl); have b9 := bfr 9 (by kernel_rfl)
    simp only [go_sem, ↓reduceIte, Nat.reduceEqDiff, Nat.reduceAdd, Nat.reduceSub, Nat.reduceLeDiff, reduceCtorEq, a9, ag0, a0, a1, a2, a7, a8, ao, an, x1, x2, x3, x4] at b0 b1 b2 b7 b8 b9
    clear bfr
    by_cases hkb : (k : Int) < ((cellAt cells i).g_Fired.length : Int)
    · have nextb : ∀ {e : Env} {gg : Rows}, (e 11 = .int .i64 (IntKind.i64.wrap ((k : Int) + 1))) → (gg ⟨8000000, b⟩ = some ⟨true, 2, [eSet s]⟩) → (gg oid = some ⟨true, 4, (evsN s cells i).map eEvent⟩) → (gg nid = some ⟨true, 2, ps.map ePoint⟩) → (∃ aid, e 10 = .own aid 0 (2 + (k + 1)) ∧ gg aid = some ⟨true, 4, (allK (cellAt cells i) (k + 1)).map eEvent⟩ ∧ AllSite aid) → ∃ m0, m0 < ((cellAt cells i).g_Fired.length) - k ∧ ∃ k : Nat, m0 = ((cellAt cells i).g_Fired.length) - k ∧ k ≤ ((cellAt cells i).g_Fired.length) ∧ e 11 = .int .i64 (k : Int) ∧ gg ⟨8000000, b⟩ = some ⟨true, 2, [eSet s]⟩ ∧ gg oid = some ⟨true, 4, (evsN s cells i).map eEvent⟩ ∧ gg nid = some ⟨true, 2, ps.map ePoint⟩ ∧ (∃ aid, e 10 = .own aid 0 (2 + k) ∧ gg aid = some ⟨true, 4, (allK (cellAt cells i) k).map eEvent⟩ ∧ AllSite aid) := fun x1 x2 x3 x4 x5 => ⟨_, by omega, k + 1, rfl, by omega, (by rw [x1, wrap_succ2 (by omega)]), x2, x3, x4, x5⟩
      obtain ⟨aid, b10, ba, hA⟩ := bI0
      have x7 := hA.ne
      have x8 := hA.ne'
      have x9 := all_near hA hNs
      have x10 := near_all hA hNs
      have x11 := out_all hO hA
      have x12 := all_out hO hA
      have e1 : 2 + k + 1 ≤ 16777216 := by omega
      have e2 := map_snoc (allK (cellAt cells i) k) ⟨3, (cellAt cells i).g_At, k⟩
      rw [allK_succ] at e2
      have e3 := allK_len (cellAt cells i) k
      simp only [] at e2
      (repeat (first | ((first | apply w_seq | apply w_reg); intro N hN) | ((first | (apply w_op; intro N hN) | apply w_condB); simp only [go_sem, ↓reduceIte, Nat.reduceEqDiff, Nat.reduceAdd, Nat.reduceSub, Nat.reduceLeDiff, reduceCtorEq, b11, bg0, bg1, bg2, b0, b1, b2, b7, b8, b9, b10, ba, hkb, hgi, e1, e2, e3, x1, x2, x3, x4, x7, x8, eCell, ePoint]; first | (refine hN _ _ ?_; clear hN N) | (rfl; change wpv _ _ _ _ _) | skip) | (apply w_nil; refine hN _ _ ?_; clear hN N; try (simp only [seqQ, blockQ, ↓reduceIte, Nat.reduceEqDiff]); try (refine hN _ _ ?_; clear hN N)) | apply w_block | ((first | apply w_skip | apply w_exit | apply w_ret); try (simp only [seqQ, blockQ, ↓reduceIte, Nat.reduceEqDiff]); try (refine hN _ _ ?_; clear hN N)) | ((first | refine hN _ _ ?_ | (clear hN N; first | refine hN _ _ ?_ | (clear hN N; first | refine hN _ _ ?_ | (clear hN N; first | refine hN _ _ ?_ | (clear hN N; refine hN _ _ ?_))))); clear hN N)))
      refine nextb ?_ ?_ ?_ ?_ (⟨⟨32010009, st_b.next + 1⟩, by (simp only [go_sem, ↓reduceIte, Nat.reduceEqDiff, Nat.reduceAdd, Nat.reduceSub, Nat.reduceLeDiff, reduceCtorEq]) <;> rfl, by simp only [go_sem, ↓reduceIte, Nat.reduceEqDiff, Nat.reduceAdd, Nat.reduceSub, Nat.reduceLeDiff, reduceCtorEq, e2], .inr rfl⟩)
      all_goals simp only [go_sem, ↓reduceIte, Nat.reduceEqDiff, Nat.reduceAdd, Nat.reduceSub, Nat.reduceLeDiff, reduceCtorEq, b11, bg0, bg1, bg2, b0, b1, b2, b7, b8, b9, x1, x2, x3, x4, x5, x6, x7, x8, x9, x10, x11, x12]
    · have hkf : k = (cellAt cells i).g_Fired.length := by omega
      subst hkf
      obtain ⟨aid, b10, ba, hA⟩ := bI0
      rw [← allK_len (cellAt cells i) (cellAt cells i).g_Fired.length] at b10
      have hcan := fun (k : Nat) (hk : k < (allK (cellAt cells i) (cellAt cells i).g_Fired.length).length) => l31CanAll_v s temp cells i hi k hk (hix i hi) hS hF
      have hlenL := allK_len (cellAt cells i) (cellAt cells i).g_Fired.length
      have hcev : midE s cells i (allK (cellAt cells i) (cellAt cells i).g_Fired.length) (allK (cellAt cells i) (cellAt cells i).g_Fired.length).length = evsN s cells (i + 1) := by
        rw [midE, List.take_length]; exact evsN_succ hi
      have hm0 : midE s cells i (allK (cellAt cells i) (cellAt cells i).g_Fired.length) 0 = evsN s cells i := by simp [midE]
      generalize allK (cellAt cells i) (cellAt cells i).g_Fired.length = L at *
      have x7 := hA.ne
      have x8 := hA.ne'
      have x9 := all_near hA hNs
      have x10 := near_all hA hNs
      (repeat (first | ((first | apply w_seq | apply w_reg); intro N hN) | ((first | (apply w_op; intro N hN) | apply w_condB); simp only [go_sem, ↓reduceIte, Nat.reduceEqDiff, Nat.reduceAdd, Nat.reduceSub, Nat.reduceLeDiff, reduceCtorEq, b11, bg0, bg1, bg2, b0, b1, b2, b7, b8, b9, b10, ba, hkb, hgi, x1, x2, x3, x4, x7, x8, eCell]; first | (refine hN _ _ ?_; clear hN N) | (rfl; change wpv _ _ _ _ _) | skip) | (apply w_nil; refine hN _ _ ?_; clear hN N; try (simp only [seqQ, blockQ, ↓reduceIte, Nat.reduceEqDiff]); try (refine hN _ _ ?_; clear hN N)) | apply w_block | ((first | apply w_skip | apply w_exit | apply w_ret); try (simp only [seqQ, blockQ, ↓reduceIte, Nat.reduceEqDiff]); try (refine hN _ _ ?_; clear hN N)) | ((first | refine hN _ _ ?_ | (clear hN N; first | refine hN _ _ ?_ | (clear hN N; first | refine hN _ _ ?_ | (clear hN N; first | refine hN _ _ ?_ | (clear hN N; refine hN _ _ ?_))))); clear hN N)))
      refine w_loopF (fun n env st => ∃ k : Nat, n = (L.length) - k ∧ k ≤ (L.length) ∧ env 12 = .int .i64 (k : Int) ∧ st.get ⟨8000000, b⟩ = some ⟨true, 2, [eSet s]⟩ ∧ st.get nid = some ⟨true, 2, ps.map ePoint⟩ ∧ st.get aid = some ⟨true, 4, L.map eEvent⟩ ∧ (∃ oid, env 7 = .own oid 0 (midE s cells i L k).length ∧ st.get oid = some ⟨true, 4, (midE s cells i L k).map eEvent⟩ ∧ OutSite oid)) (L.length) ⟨0, by omega, by omega, by (try simp only [go_sem, ↓reduceIte, Nat.reduceEqDiff, Nat.reduceAdd, Nat.reduceSub, Nat.reduceLeDiff, reduceCtorEq, b11, bg0, bg1, bg2, b0, b1, b2, b7, b8, b9, b10, ba, x1, x2, x3, x4, x7, x8]); try rfl, by (try simp only [go_sem, ↓reduceIte, Nat.reduceEqDiff, Nat.reduceAdd, Nat.reduceSub, Nat.reduceLeDiff, reduceCtorEq, b11, bg0, bg1, bg2, b0, b1, b2, b7, b8, b9, b10, ba, x1, x2, x3, x4, x7, x8]); try rfl, by (try simp only [go_sem, ↓reduceIte, Nat.reduceEqDiff, Nat.reduceAdd, Nat.reduceSub, Nat.reduceLeDiff, reduceCtorEq, b11, bg0, bg1, bg2, b0, b1, b2, b7, b8, b9, b10, ba, x1, x2, x3, x4, x7, x8]); try rfl, by (try simp only [go_sem, ↓reduceIte, Nat.reduceEqDiff, Nat.reduceAdd, Nat.reduceSub, Nat.reduceLeDiff, reduceCtorEq, b11, bg0, bg1, bg2, b0, b1, b2, b7, b8, b9, b10, ba, x1, x2, x3, x4, x7, x8]); try rfl, ⟨oid, by simp only [go_sem, ↓reduceIte, Nat.reduceEqDiff, Nat.reduceAdd, Nat.reduceSub, Nat.reduceLeDiff, reduceCtorEq, b11, bg0, bg1, bg2, b0, b1, b2, b7, b8, b9, hm0], by simp only [go_sem, ↓reduceIte, Nat.reduceEqDiff, Nat.reduceAdd, Nat.reduceSub, Nat.reduceLeDiff, reduceCtorEq, b11, bg0, bg1, bg2, b0, b1, b2, b7, b8, b9, hm0], hO⟩⟩ ?_
      rintro n_c env_c st_c ⟨k, rfl, cle, c12, cg0, cg1, cg2, cI0⟩ cfr
      have c0 := cfr 0 (by kernel_rfl); have c1 := cfr 1 (by kernel_rfl); have c2 := cfr 2 (by kernel_rfl); have c8 := cfr 8 (by kernel_rfl); have c9 := cfr 9 (by kernel_rfl); have c10 := cfr 10 (by kernel_rfl)
      simp only [go_sem, ↓reduceIte, Nat.reduceEqDiff, Nat.reduceAdd, Nat.reduceSub, Nat.reduceLeDiff, reduceCtorEq, b11, bg0, bg1, bg2, b0, b1, b2, b7, b8, b9, b10, ba, x1, x2, x3, x4, x7, x8] at c0 c1 c2 c8 c9 c10
      clear cfr
      clear hm0 x1 x2 x5 x6 hO ao a7
      obtain ⟨oid, c7, co, hO⟩ := cI0
      have x1 := hO.ne
      have x2 := hO.ne'
      have x5 := out_near hO hNs
      have x6 := near_out hO hNs
      have x11 := out_all hO hA
      have x12 := all_out hO hA
      have hml : (midE s cells i L k).length ≤ 16777215 := by
        have h1 : ((L.take k).filter (canB s cells (cellAt cells i))).length ≤ k := Nat.le_trans (List.length_filter_le _ _) (by rw [List.length_take]; omega)
        rw [midE, List.length_append]; omega
      by_cases hkc : (k : Int) < (L.length : Int)
      · have nextc : ∀ {e : Env} {gg : Rows}, (e 12 = .int .i64 (IntKind.i64.wrap ((k : Int) + 1))) → (gg ⟨8000000, b⟩ = some ⟨true, 2, [eSet s]⟩) → (gg nid = some ⟨true, 2, ps.map ePoint⟩) → (gg aid = some ⟨true, 4, L.map eEvent⟩) → (∃ oid, e 7 = .own oid 0 (midE s cells i L (k + 1)).length ∧ gg oid = some ⟨true, 4, (midE s cells i L (k + 1)).map eEvent⟩ ∧ OutSite oid) → ∃ m0, m0 < (L.length) - k ∧ ∃ k : Nat, m0 = (L.length) - k ∧ k ≤ (L.length) ∧ e 12 = .int .i64 (k : Int) ∧ gg ⟨8000000, b⟩ = some ⟨true, 2, [eSet s]⟩ ∧ gg nid = some ⟨true, 2, ps.map ePoint⟩ ∧ gg aid = some ⟨true, 4, L.map eEvent⟩ ∧ (∃ oid, e 7 = .own oid 0 (midE s cells i L k).length ∧ gg oid = some ⟨true, 4, (midE s cells i L k).map eEvent⟩ ∧ OutSite oid) := fun x1 x2 x3 x4 x5 => ⟨_, by omega, k + 1, rfl, by omega, (by rw [x1, wrap_succ2 (by omega)]), x2, x3, x4, x5⟩
        have hkL : k < L.length := by omega
        have hgk : (L.map eEvent)[k]? = some (eEvent (eA L k)) := eA_get hkL
        have hck := hcan k hkL
        cases hcb : canB s cells (cellAt cells i) (eA L k)
        · (repeat (first | ((first | apply w_seq | apply w_reg); intro N hN) | ((first | (apply w_op; intro N hN) | apply w_condB); simp only [go_sem, ↓reduceIte, Nat.reduceEqDiff, Nat.reduceAdd, Nat.reduceSub, Nat.reduceLeDiff, reduceCtorEq, c12, cg0, cg1, cg2, c0, c1, c2, c8, c9, c10, c7, co, hkc, hgk, hcb, x1, x2, x3, x4, x7, x8, eEvent, eSet]; first | (refine hN _ _ ?_; clear hN N) | (rfl; change wpv _ _ _ _ _) | skip) | (apply w_nil; refine hN _ _ ?_; clear hN N; try (simp only [seqQ, blockQ, ↓reduceIte, Nat.reduceEqDiff]); try (refine hN _ _ ?_; clear hN N)) | apply w_block | ((first | apply w_skip | apply w_exit | apply w_ret); try (simp only [seqQ, blockQ, ↓reduceIte, Nat.reduceEqDiff]); try (refine hN _ _ ?_; clear hN N)) | ((first | refine hN _ _ ?_ | (clear hN N; first | refine hN _ _ ?_ | (clear hN N; first | refine hN _ _ ?_ | (clear hN N; first | refine hN _ _ ?_ | (clear hN N; refine hN _ _ ?_))))); clear hN N) | (refine .inl ⟨_, RetS.x (hck) ?_, ?_⟩; (focus (simp only [go_sem, ↓reduceIte, Nat.reduceEqDiff, Nat.reduceAdd, Nat.reduceSub, Nat.reduceLeDiff, reduceCtorEq, c12, cg0, cg1, cg2, c0, c1, c2, c8, c9, c10, c7, co, hkc, hgk, hcb, x1, x2, x3, x4, x7, x8, eEvent, eSet]; done)); refine hN _ _ ?_; clear hN N)))
          refine nextc ?_ ?_ ?_ ?_ (⟨oid, by simp only [go_sem, ↓reduceIte, Nat.reduceEqDiff, Nat.reduceAdd, Nat.reduceSub, Nat.reduceLeDiff, reduceCtorEq, c7, midE_no hkL hcb], by simp only [go_sem, ↓reduceIte, Nat.reduceEqDiff, Nat.reduceAdd, Nat.reduceSub, Nat.reduceLeDiff, reduceCtorEq, co, midE_no hkL hcb], hO⟩)
          all_goals simp only [go_sem, ↓reduceIte, Nat.reduceEqDiff, Nat.reduceAdd, Nat.reduceSub, Nat.reduceLeDiff, reduceCtorEq, c12, cg0, cg1, cg2, c0, c1, c2, c8, c9, c10, eSet]
        · have e2 := map_snoc (midE s cells i L k) (eA L k)
          rw [← midE_yes hkL hcb] at e2
          have e3 : (midE s cells i L (k + 1)).length = (midE s cells i L k).length + 1 := by rw [midE_yes hkL hcb]; simp
          (repeat (first | ((first | apply w_seq | apply w_reg); intro N hN) | ((first | (apply w_op; intro N hN) | apply w_condB); simp only [go_sem, ↓reduceIte, Nat.reduceEqDiff, Nat.reduceAdd, Nat.reduceSub, Nat.reduceLeDiff, reduceCtorEq, c12, cg0, cg1, cg2, c0, c1, c2, c8, c9, c10, c7, co, hkc, hgk, hcb, e2, hml, x1, x2, x3, x4, x7, x8, eEvent, eSet]; first | (refine hN _ _ ?_; clear hN N) | (rfl; change wpv _ _ _ _ _) | skip) | (apply w_nil; refine hN _ _ ?_; clear hN N; try (simp only [seqQ, blockQ, ↓reduceIte, Nat.reduceEqDiff]); try (refine hN _ _ ?_; clear hN N)) | apply w_block | ((first | apply w_skip | apply w_exit | apply w_ret); try (simp only [seqQ, blockQ, ↓reduceIte, Nat.reduceEqDiff]); try (refine hN _ _ ?_; clear hN N)) | ((first | refine hN _ _ ?_ | (clear hN N; first | refine hN _ _ ?_ | (clear hN N; first | refine hN _ _ ?_ | (clear hN N; first | refine hN _ _ ?_ | (clear hN N; refine hN _ _ ?_))))); clear hN N) | (refine .inl ⟨_, RetS.x (hck) ?_, ?_⟩; (focus (simp only [go_sem, ↓reduceIte, Nat.reduceEqDiff, Nat.reduceAdd, Nat.reduceSub, Nat.reduceLeDiff, reduceCtorEq, c12, cg0, cg1, cg2, c0, c1, c2, c8, c9, c10, c7, co, hkc, hgk, hcb, e2, hml, x1, x2, x3, x4, x7, x8, eEvent, eSet]; done)); refine hN _ _ ?_; clear hN N)))
          refine nextc ?_ ?_ ?_ ?_ (⟨⟨32015006, st_c.next + 2⟩, by simp only [go_sem, ↓reduceIte, Nat.reduceEqDiff, Nat.reduceAdd, Nat.reduceSub, Nat.reduceLeDiff, reduceCtorEq, e3], by simp only [go_sem, ↓reduceIte, Nat.reduceEqDiff, Nat.reduceAdd, Nat.reduceSub, Nat.reduceLeDiff, reduceCtorEq, e2], .inr (.inl rfl)⟩)
          all_goals simp only [go_sem, ↓reduceIte, Nat.reduceEqDiff, Nat.reduceAdd, Nat.reduceSub, Nat.reduceLeDiff, reduceCtorEq, c12, cg0, cg1, cg2, c0, c1, c2, c8, c9, c10, eSet, x1, x2, x3, x4, x5, x6, x7, x8, x9, x10, x11, x12]
      · have hkf : k = L.length := by omega
        subst hkf
        rw [hcev] at c7 co
        (repeat (first | ((first | apply w_seq | apply w_reg); intro N hN) | ((first | (apply w_op; intro N hN) | apply w_condB); simp only [go_sem, ↓reduceIte, Nat.reduceEqDiff, Nat.reduceAdd, Nat.reduceSub, Nat.reduceLeDiff, reduceCtorEq, c12, cg0, cg1, cg2, c0, c1, c2, c8, c9, c10, c7, co, hkc, x1, x2, x3, x4]; first | (refine hN _ _ ?_; clear hN N) | (rfl; change wpv _ _ _ _ _) | skip) | (apply w_nil; refine hN _ _ ?_; clear hN N; try (simp only [seqQ, blockQ, ↓reduceIte, Nat.reduceEqDiff]); try (refine hN _ _ ?_; clear hN N)) | apply w_block | ((first | apply w_skip | apply w_exit | apply w_ret); try (simp only [seqQ, blockQ, ↓reduceIte, Nat.reduceEqDiff]); try (refine hN _ _ ?_; clear hN N)) | ((first | refine hN _ _ ?_ | (clear hN N; first | refine hN _ _ ?_ | (clear hN N; first | refine hN _ _ ?_ | (clear hN N; first | refine hN _ _ ?_ | (clear hN N; refine hN _ _ ?_))))); clear hN N)))
        refine w_loopF (fun n env st => ∃ m : Nat, n = (4) - m ∧ m ≤ (4) ∧ env 13 = .int .i64 (m : Int) ∧ st.get ⟨8000000, b⟩ = some ⟨true, 2, [eSet s]⟩ ∧ st.get oid = some ⟨true, 4, (evsN s cells (i + 1)).map eEvent⟩ ∧ (∃ nid ps, env 8 = .own nid 0 ps.length ∧ st.get nid = some ⟨true, 2, ps.map ePoint⟩ ∧ NearSite nid ∧ Ris ps ∧ (∀ x, x ∈ ps ↔ nearN cells i m x) ∧ ps.length ≤ 4 * i + m)) (4) ⟨0, by omega, by omega, by (try simp only [go_sem, ↓reduceIte, Nat.reduceEqDiff, Nat.reduceAdd, Nat.reduceSub, Nat.reduceLeDiff, reduceCtorEq, c12, cg0, cg1, cg2, c0, c1, c2, c8, c9, c10, c7, co]); try rfl, by (try simp only [go_sem, ↓reduceIte, Nat.reduceEqDiff, Nat.reduceAdd, Nat.reduceSub, Nat.reduceLeDiff, reduceCtorEq, c12, cg0, cg1, cg2, c0, c1, c2, c8, c9, c10, c7, co]); try rfl, by (try simp only [go_sem, ↓reduceIte, Nat.reduceEqDiff, Nat.reduceAdd, Nat.reduceSub, Nat.reduceLeDiff, reduceCtorEq, c12, cg0, cg1, cg2, c0, c1, c2, c8, c9, c10, c7, co]); try rfl, ⟨nid, ps, by simp only [go_sem, ↓reduceIte, Nat.reduceEqDiff, Nat.reduceAdd, Nat.reduceSub, Nat.reduceLeDiff, reduceCtorEq, c12, cg0, cg1, cg2, c0, c1, c2, c8, c9, c10], by simp only [go_sem, ↓reduceIte, Nat.reduceEqDiff, Nat.reduceAdd, Nat.reduceSub, Nat.reduceLeDiff, reduceCtorEq, c12, cg0, cg1, cg2, c0, c1, c2, c8, c9, c10], hNs, hR, hP, by omega⟩⟩ ?_
        rintro n_d env_d st_d ⟨m, rfl, dle, d13, dg0, dg1, dI0⟩ dfr
        have d0 := dfr 0 (by kernel_rfl); have d1 := dfr 1 (by kernel_rfl); have d2 := dfr 2 (by kernel_rfl); have d7 := dfr 7 (by kernel_rfl); have d9 := dfr 9 (by kernel_rfl)
        simp only [go_sem, ↓reduceIte, Nat.reduceEqDiff, Nat.reduceAdd, Nat.reduceSub, Nat.reduceLeDiff, reduceCtorEq, c12, cg0, cg1, cg2, c0, c1, c2, c8, c9, c10, c7, co] at d0 d1 d2 d7 d9
        clear dfr
        clear hR hP hL x3 x4 x5 x6 hNs an a8 x7 x8 x9 x10 x11 x12 hA ba
        obtain ⟨nid, ps, d8, dn, hNs, hR, hP, hL⟩ := dI0
        have x3 := hNs.ne
        have x4 := hNs.ne'
        have x5 := out_near hO hNs
        have x6 := near_out hO hNs
        by_cases hd : (m : Int) < 4
        · have nextd : ∀ {e : Env} {gg : Rows}, (e 13 = .int .i64 (IntKind.i64.wrap ((m : Int) + 1))) → (gg ⟨8000000, b⟩ = some ⟨true, 2, [eSet s]⟩) → (gg oid = some ⟨true, 4, (evsN s cells (i + 1)).map eEvent⟩) → (∃ nid ps, e 8 = .own nid 0 ps.length ∧ gg nid = some ⟨true, 2, ps.map ePoint⟩ ∧ NearSite nid ∧ Ris ps ∧ (∀ x, x ∈ ps ↔ nearN cells i (m + 1) x) ∧ ps.length ≤ 4 * i + (m + 1)) → ∃ m0, m0 < (4) - m ∧ ∃ m : Nat, m0 = (4) - m ∧ m ≤ (4) ∧ e 13 = .int .i64 (m : Int) ∧ gg ⟨8000000, b⟩ = some ⟨true, 2, [eSet s]⟩ ∧ gg oid = some ⟨true, 4, (evsN s cells (i + 1)).map eEvent⟩ ∧ (∃ nid ps, e 8 = .own nid 0 ps.length ∧ gg nid = some ⟨true, 2, ps.map ePoint⟩ ∧ NearSite nid ∧ Ris ps ∧ (∀ x, x ∈ ps ↔ nearN cells i m x) ∧ ps.length ≤ 4 * i + m) := fun x1 x2 x3 x4 => ⟨_, by omega, m + 1, rfl, by omega, (by rw [x1, wrap_succ2 (by omega)]), x2, x3, x4⟩
          have hst := l01Step_v (cellAt cells i).g_At (m : Int) bx by_
          have hyes := fun x => nearN_yes (cells := cells) (i := i) (m := m) (x := x)
          have hno := fun x => nearN_no (cells := cells) (i := i) (m := m) (x := x)
          generalize stepP (cellAt cells i).g_At (m : Int) = q at *
          cases hpt : ptB q
          · (repeat (first | ((first | apply w_seq | apply w_reg); intro N hN) | ((first | (apply w_op; intro N hN) | apply w_condB); simp only [go_sem, ↓reduceIte, Nat.reduceEqDiff, Nat.reduceAdd, Nat.reduceSub, Nat.reduceLeDiff, reduceCtorEq, d13, dg0, dg1, d0, d1, d2, d7, d9, d8, dn, hd, hgi, hpt, x1, x2, x3, x4, eCell, ePoint]; first | (refine hN _ _ ?_; clear hN N) | (rfl; change wpv _ _ _ _ _) | skip) | (apply w_nil; refine hN _ _ ?_; clear hN N; try (simp only [seqQ, blockQ, ↓reduceIte, Nat.reduceEqDiff]); try (refine hN _ _ ?_; clear hN N)) | apply w_block | ((first | apply w_skip | apply w_exit | apply w_ret); try (simp only [seqQ, blockQ, ↓reduceIte, Nat.reduceEqDiff]); try (refine hN _ _ ?_; clear hN N)) | ((first | refine hN _ _ ?_ | (clear hN N; first | refine hN _ _ ?_ | (clear hN N; first | refine hN _ _ ?_ | (clear hN N; first | refine hN _ _ ?_ | (clear hN N; refine hN _ _ ?_))))); clear hN N) | (refine .inl ⟨_, Ret.x (hst) _, ?_⟩; refine hN _ _ ?_; clear hN N) | (refine .inl ⟨_, Ret.x (l01Point_v q) _, ?_⟩; refine hN _ _ ?_; clear hN N)))
            refine nextd ?_ ?_ ?_ (⟨nid, ps, by simp only [go_sem, ↓reduceIte, Nat.reduceEqDiff, Nat.reduceAdd, Nat.reduceSub, Nat.reduceLeDiff, reduceCtorEq, d8], by simp only [go_sem, ↓reduceIte, Nat.reduceEqDiff, Nat.reduceAdd, Nat.reduceSub, Nat.reduceLeDiff, reduceCtorEq, dn, x3, x4], hNs, hR, fun x => by rw [hP, hno x fun hg => by rw [hg.1] at hpt; cases hpt], by omega⟩)
            all_goals simp only [go_sem, ↓reduceIte, Nat.reduceEqDiff, Nat.reduceAdd, Nat.reduceSub, Nat.reduceLeDiff, reduceCtorEq, d13, dg0, dg1, d0, d1, d2, d7, d9, x1, x2, x3, x4]
          by_cases hin : idxN cells q < cells.length
          · have hidx : idxI cells q = (idxN cells q : Int) := if_pos hin
            have hnn : ¬ ((idxN cells q : Int) < 0) := by omega
            (repeat (first | ((first | apply w_seq | apply w_reg); intro N hN) | ((first | (apply w_op; intro N hN) | apply w_condB); simp only [go_sem, ↓reduceIte, Nat.reduceEqDiff, Nat.reduceAdd, Nat.reduceSub, Nat.reduceLeDiff, reduceCtorEq, d13, dg0, dg1, d0, d1, d2, d7, d9, d8, dn, hd, hgi, hpt, hidx, hnn, x1, x2, x3, x4, eCell, ePoint]; first | (refine hN _ _ ?_; clear hN N) | (rfl; change wpv _ _ _ _ _) | skip) | (apply w_nil; refine hN _ _ ?_; clear hN N; try (simp only [seqQ, blockQ, ↓reduceIte, Nat.reduceEqDiff]); try (refine hN _ _ ?_; clear hN N)) | apply w_block | ((first | apply w_skip | apply w_exit | apply w_ret); try (simp only [seqQ, blockQ, ↓reduceIte, Nat.reduceEqDiff]); try (refine hN _ _ ?_; clear hN N)) | ((first | refine hN _ _ ?_ | (clear hN N; first | refine hN _ _ ?_ | (clear hN N; first | refine hN _ _ ?_ | (clear hN N; first | refine hN _ _ ?_ | (clear hN N; refine hN _ _ ?_))))); clear hN N) | (refine .inl ⟨_, Ret.x (hst) _, ?_⟩; refine hN _ _ ?_; clear hN N) | (refine .inl ⟨_, Ret.x (l01Point_v q) _, ?_⟩; refine hN _ _ ?_; clear hN N) | (refine .inl ⟨_, RetS.x (l31Index_v cells q) ?_, ?_⟩; (focus (simp only [go_sem, ↓reduceIte, Nat.reduceEqDiff, Nat.reduceAdd, Nat.reduceSub, Nat.reduceLeDiff, reduceCtorEq, d13, dg0, dg1, d0, d1, d2, d7, d9, d8, dn, hd, hgi, hpt, hidx, hnn, x1, x2, x3, x4, eCell, ePoint]; done)); refine hN _ _ ?_; clear hN N)))
            refine nextd ?_ ?_ ?_ (⟨nid, ps, by simp only [go_sem, ↓reduceIte, Nat.reduceEqDiff, Nat.reduceAdd, Nat.reduceSub, Nat.reduceLeDiff, reduceCtorEq, d8], by simp only [go_sem, ↓reduceIte, Nat.reduceEqDiff, Nat.reduceAdd, Nat.reduceSub, Nat.reduceLeDiff, reduceCtorEq, dn, x3, x4], hNs, hR, fun x => by rw [hP, hno x fun hg => hg.2 hin], by omega⟩)
            all_goals simp only [go_sem, ↓reduceIte, Nat.reduceEqDiff, Nat.reduceAdd, Nat.reduceSub, Nat.reduceLeDiff, reduceCtorEq, d13, dg0, dg1, d0, d1, d2, d7, d9, x1, x2, x3, x4]
          · have hidx : idxI cells q = -1 := if_neg hin
            (repeat (first | ((first | apply w_seq | apply w_reg); intro N hN) | ((first | (apply w_op; intro N hN) | apply w_condB); simp only [go_sem, ↓reduceIte, Nat.reduceEqDiff, Nat.reduceAdd, Nat.reduceSub, Nat.reduceLeDiff, reduceCtorEq, d13, dg0, dg1, d0, d1, d2, d7, d9, d8, dn, hd, hgi, hpt, hidx, x1, x2, x3, x4, eCell, ePoint]; first | (refine hN _ _ ?_; clear hN N) | (rfl; change wpv _ _ _ _ _) | skip) | (apply w_nil; refine hN _ _ ?_; clear hN N; try (simp only [seqQ, blockQ, ↓reduceIte, Nat.reduceEqDiff]); try (refine hN _ _ ?_; clear hN N)) | apply w_block | ((first | apply w_skip | apply w_exit | apply w_ret); try (simp only [seqQ, blockQ, ↓reduceIte, Nat.reduceEqDiff]); try (refine hN _ _ ?_; clear hN N)) | ((first | refine hN _ _ ?_ | (clear hN N; first | refine hN _ _ ?_ | (clear hN N; first | refine hN _ _ ?_ | (clear hN N; first | refine hN _ _ ?_ | (clear hN N; refine hN _ _ ?_))))); clear hN N) | (refine .inl ⟨_, Ret.x (hst) _, ?_⟩; refine hN _ _ ?_; clear hN N) | (refine .inl ⟨_, Ret.x (l01Point_v q) _, ?_⟩; refine hN _ _ ?_; clear hN N) | (refine .inl ⟨_, RetS.x (l31Index_v cells q) ?_, ?_⟩; (focus (simp only [go_sem, ↓reduceIte, Nat.reduceEqDiff, Nat.reduceAdd, Nat.reduceSub, Nat.reduceLeDiff, reduceCtorEq, d13, dg0, dg1, d0, d1, d2, d7, d9, d8, dn, hd, hgi, hpt, hidx, x1, x2, x3, x4, eCell, ePoint]; done)); refine hN _ _ ?_; clear hN N)))
            refine .inr ?_
            refine Call_mono _ _ _ _ _ (fun r σ' hq => ?_) (l08PutPoint_v ps q hR (by omega) _ nid (by simp only [go_sem, ↓reduceIte, Nat.reduceEqDiff, Nat.reduceAdd, Nat.reduceSub, Nat.reduceLeDiff, reduceCtorEq, dn, x3, x4]) (fun v => by simp [x3]) (fun v => by simp [x3]))
            obtain ⟨qs, nid', rfl, hqg, hqR, hqm, hql, hqs, _, hfr⟩ := hq
            have hNs' : NearSite nid' := by
              rcases hqs with h | h
              · rw [h]; exact hNs
              · exact .inr h
            have f1 := hfr ⟨8000000, b⟩ (show ¬ (8000000 / 1000000 = 67) by decide) (fun h => by rw [← h] at hNs; rcases hNs with h | h <;> simp at h)
            have f2 := hfr oid (by rcases hO with h | h | h <;> rw [h] <;> decide) (fun h => by rw [x5] at h; exact h)
            simp only [go_sem, ↓reduceIte, Nat.reduceEqDiff, Nat.reduceAdd, Nat.reduceSub, Nat.reduceLeDiff, reduceCtorEq, d13, dg0, dg1, d0, d1, d2, d7, d9, x1, x2, x3, x4] at f1 f2
            refine hN _ _ ?_
            clear hN N
            (repeat (first | ((first | apply w_seq | apply w_reg); intro N hN) | ((first | (apply w_op; intro N hN) | apply w_condB); simp only [go_sem, ↓reduceIte, Nat.reduceEqDiff, Nat.reduceAdd, Nat.reduceSub, Nat.reduceLeDiff, reduceCtorEq, d13, dg0, dg1, d0, d1, d2, d7, d9]; first | (refine hN _ _ ?_; clear hN N) | (rfl; change wpv _ _ _ _ _) | skip) | (apply w_nil; refine hN _ _ ?_; clear hN N; try (simp only [seqQ, blockQ, ↓reduceIte, Nat.reduceEqDiff]); try (refine hN _ _ ?_; clear hN N)) | apply w_block | ((first | apply w_skip | apply w_exit | apply w_ret); try (simp only [seqQ, blockQ, ↓reduceIte, Nat.reduceEqDiff]); try (refine hN _ _ ?_; clear hN N)) | ((first | refine hN _ _ ?_ | (clear hN N; first | refine hN _ _ ?_ | (clear hN N; first | refine hN _ _ ?_ | (clear hN N; first | refine hN _ _ ?_ | (clear hN N; refine hN _ _ ?_))))); clear hN N)))
            refine nextd ?_ ?_ ?_ (⟨nid', qs, by simp only [go_sem, ↓reduceIte, Nat.reduceEqDiff, Nat.reduceAdd, Nat.reduceSub, Nat.reduceLeDiff, reduceCtorEq], hqg, hNs', hqR, fun x => by rw [hqm, hP, hyes x ⟨hpt, hin⟩], by omega⟩)
            all_goals simp only [go_sem, ↓reduceIte, Nat.reduceEqDiff, Nat.reduceAdd, Nat.reduceSub, Nat.reduceLeDiff, reduceCtorEq, d13, dg0, dg1, d0, d1, d2, d7, d9, f1, f2]
        · have hm4 : m = 4 := by omega
          subst hm4
          (repeat (first | ((first | apply w_seq | apply w_reg); intro N hN) | ((first | (apply w_op; intro N hN) | apply w_condB); simp only [go_sem, ↓reduceIte, Nat.reduceEqDiff, Nat.reduceAdd, Nat.reduceSub, Nat.reduceLeDiff, reduceCtorEq, d13, dg0, dg1, d0, d1, d2, d7, d9, hd]; first | (refine hN _ _ ?_; clear hN N) | (rfl; change wpv _ _ _ _ _) | skip) | (apply w_nil; refine hN _ _ ?_; clear hN N; try (simp only [seqQ, blockQ, ↓reduceIte, Nat.reduceEqDiff]); try (refine hN _ _ ?_; clear hN N)) | apply w_block | ((first | apply w_skip | apply w_exit | apply w_ret); try (simp only [seqQ, blockQ, ↓reduceIte, Nat.reduceEqDiff]); try (refine hN _ _ ?_; clear hN N)) | ((first | refine hN _ _ ?_ | (clear hN N; first | refine hN _ _ ?_ | (clear hN N; first | refine hN _ _ ?_ | (clear hN N; first | refine hN _ _ ?_ | (clear hN N; refine hN _ _ ?_))))); clear hN N)))
          refine nexta ?_ ?_ (⟨oid, nid, ps, by simp only [go_sem, ↓reduceIte, Nat.reduceEqDiff, Nat.reduceAdd, Nat.reduceSub, Nat.reduceLeDiff, reduceCtorEq, d13, dg0, dg1, d0, d1, d2, d7, d9], by simp only [go_sem, ↓reduceIte, Nat.reduceEqDiff, Nat.reduceAdd, Nat.reduceSub, Nat.reduceLeDiff, reduceCtorEq, d8], dg1, dn, hO, hNs, hR, fun x => by rw [hP, nearN_next], by omega⟩)
          all_goals simp only [go_sem, ↓reduceIte, Nat.reduceEqDiff, Nat.reduceAdd, Nat.reduceSub, Nat.reduceLeDiff, reduceCtorEq, d13, dg0, dg1, d0, d1, d2, d7, d9]
  · have hkf : i = cells.length := by omega
    subst hkf
    obtain ⟨oid, nid, ps, a7, a8, ao, an, hO, hNs, hR, hP, hL⟩ := aI0
    have x1 := hO.ne
    have x2 := hO.ne'
    have x3 := hNs.ne
    have x4 := hNs.ne'
    (repeat (first | ((first | apply w_seq | apply w_reg); intro N hN) | ((first | (apply w_op; intro N hN) | apply w_condB); simp only [go_sem, ↓reduceIte, Nat.reduceEqDiff, Nat.reduceAdd, Nat.reduceSub, Nat.reduceLeDiff, reduceCtorEq, a9, ag0, a0, a1, a2, a7, a8, hk]; first | (refine hN _ _ ?_; clear hN N) | (rfl; change wpv _ _ _ _ _) | skip) | (apply w_nil; refine hN _ _ ?_; clear hN N; try (simp only [seqQ, blockQ, ↓reduceIte, Nat.reduceEqDiff]); try (refine hN _ _ ?_; clear hN N)) | apply w_block | ((first | apply w_skip | apply w_exit | apply w_ret); try (simp only [seqQ, blockQ, ↓reduceIte, Nat.reduceEqDiff]); try (refine hN _ _ ?_; clear hN N)) | ((first | refine hN _ _ ?_ | (clear hN N; first | refine hN _ _ ?_ | (clear hN N; first | refine hN _ _ ?_ | (clear hN N; first | refine hN _ _ ?_ | (clear hN N; refine hN _ _ ?_))))); clear hN N)))
    refine w_loopF (fun n env st => ∃ q : Nat, n = (ps.length) - q ∧ q ≤ (ps.length) ∧ env 15 = .int .i64 (q : Int) ∧ st.get ⟨8000000, b⟩ = some ⟨true, 2, [eSet s]⟩ ∧ st.get nid = some ⟨true, 2, ps.map ePoint⟩ ∧ (∃ oid, env 7 = .own oid 0 (evsN s cells cells.length ++ attsN s temp cells ps q).length ∧ st.get oid = some ⟨true, 4, (evsN s cells cells.length ++ attsN s temp cells ps q).map eEvent⟩ ∧ OutSite oid)) (ps.length) ⟨0, by omega, by omega, by (try simp only [go_sem, ↓reduceIte, Nat.reduceEqDiff, Nat.reduceAdd, Nat.reduceSub, Nat.reduceLeDiff, reduceCtorEq, a9, ag0, a0, a1, a2, a8, an]); try rfl, by (try simp only [go_sem, ↓reduceIte, Nat.reduceEqDiff, Nat.reduceAdd, Nat.reduceSub, Nat.reduceLeDiff, reduceCtorEq, a9, ag0, a0, a1, a2, a8, an]); try rfl, by (try simp only [go_sem, ↓reduceIte, Nat.reduceEqDiff, Nat.reduceAdd, Nat.reduceSub, Nat.reduceLeDiff, reduceCtorEq, a9, ag0, a0, a1, a2, a8, an]); try rfl, ⟨oid, by simp [attsN, a7, upd], by simp [attsN, ao], hO⟩⟩ ?_
    rintro n_e env_e st_e ⟨q, rfl, ele, e15, eg0, eg1, eI0⟩ efr
    have e0 := efr 0 (by kernel_rfl); have e1 := efr 1 (by kernel_rfl); have e2 := efr 2 (by kernel_rfl); have e8 := efr 8 (by kernel_rfl)
    simp only [go_sem, ↓reduceIte, Nat.reduceEqDiff, Nat.reduceAdd, Nat.reduceSub, Nat.reduceLeDiff, reduceCtorEq, a9, ag0, a0, a1, a2, a8, an] at e0 e1 e2 e8
    clear efr
    clear x1 x2 hO ao a7
    obtain ⟨oid, e7, eo, hO⟩ := eI0
    have x1 := hO.ne
    have x2 := hO.ne'
    by_cases hq : (q : Int) < (ps.length : Int)
    · have nexte : ∀ {e : Env} {gg : Rows}, (e 15 = .int .i64 (IntKind.i64.wrap ((q : Int) + 1))) → (gg ⟨8000000, b⟩ = some ⟨true, 2, [eSet s]⟩) → (gg nid = some ⟨true, 2, ps.map ePoint⟩) → (∃ oid, e 7 = .own oid 0 (evsN s cells cells.length ++ attsN s temp cells ps (q + 1)).length ∧ gg oid = some ⟨true, 4, (evsN s cells cells.length ++ attsN s temp cells ps (q + 1)).map eEvent⟩ ∧ OutSite oid) → ∃ m0, m0 < (ps.length) - q ∧ ∃ q : Nat, m0 = (ps.length) - q ∧ q ≤ (ps.length) ∧ e 15 = .int .i64 (q : Int) ∧ gg ⟨8000000, b⟩ = some ⟨true, 2, [eSet s]⟩ ∧ gg nid = some ⟨true, 2, ps.map ePoint⟩ ∧ (∃ oid, e 7 = .own oid 0 (evsN s cells cells.length ++ attsN s temp cells ps q).length ∧ gg oid = some ⟨true, 4, (evsN s cells cells.length ++ attsN s temp cells ps q).map eEvent⟩ ∧ OutSite oid) := fun x1 x2 x3 x4 => ⟨_, by omega, q + 1, rfl, by omega, (by rw [x1, wrap_succ2 (by omega)]), x2, x3, x4⟩
      have hqn : q < ps.length := by omega
      have hgq : (ps.map ePoint)[q]? = some (ePoint (pAt ps q)) := pAt_get hqn
      have hpm : pAt ps q ∈ ps := by rw [pAt_eq hqn]; exact List.getElem_mem _
      obtain ⟨hg1, hg2⟩ := ((hP _).1 hpm).1
      have hsucc := attsN_succ (s := s) (temp := temp) (cells := cells) hqn
      have hE0 : evsN s cells cells.length ++ attsN s temp cells ps q = endE s temp cells ps q 0 := by simp [endE, attN]
      have hE1 : endE s temp cells ps q s.g_Tiles.length = evsN s cells cells.length ++ attsN s temp cells ps (q + 1) := by rw [endE, List.append_assoc, hsucc]
      rw [hE0] at e7 eo
      (repeat (first | ((first | apply w_seq | apply w_reg); intro N hN) | ((first | (apply w_op; intro N hN) | apply w_condB); simp only [go_sem, ↓reduceIte, Nat.reduceEqDiff, Nat.reduceAdd, Nat.reduceSub, Nat.reduceLeDiff, reduceCtorEq, e15, eg0, eg1, e0, e1, e2, e8, e7, hq]; first | (refine hN _ _ ?_; clear hN N) | (rfl; change wpv _ _ _ _ _) | skip) | (apply w_nil; refine hN _ _ ?_; clear hN N; try (simp only [seqQ, blockQ, ↓reduceIte, Nat.reduceEqDiff]); try (refine hN _ _ ?_; clear hN N)) | apply w_block | ((first | apply w_skip | apply w_exit | apply w_ret); try (simp only [seqQ, blockQ, ↓reduceIte, Nat.reduceEqDiff]); try (refine hN _ _ ?_; clear hN N)) | ((first | refine hN _ _ ?_ | (clear hN N; first | refine hN _ _ ?_ | (clear hN N; first | refine hN _ _ ?_ | (clear hN N; first | refine hN _ _ ?_ | (clear hN N; refine hN _ _ ?_))))); clear hN N)))
      refine w_loopF (fun n env st => ∃ k : Nat, n = (s.g_Tiles.length) - k ∧ k ≤ (s.g_Tiles.length) ∧ env 16 = .int .i64 (k : Int) ∧ st.get ⟨8000000, b⟩ = some ⟨true, 2, [eSet s]⟩ ∧ st.get nid = some ⟨true, 2, ps.map ePoint⟩ ∧ (∃ oid, env 7 = .own oid 0 (endE s temp cells ps q k).length ∧ st.get oid = some ⟨true, 4, (endE s temp cells ps q k).map eEvent⟩ ∧ OutSite oid)) (s.g_Tiles.length) ⟨0, by omega, by omega, by (try simp only [go_sem, ↓reduceIte, Nat.reduceEqDiff, Nat.reduceAdd, Nat.reduceSub, Nat.reduceLeDiff, reduceCtorEq, e15, eg0, eg1, e0, e1, e2, e8]); try rfl, by (try simp only [go_sem, ↓reduceIte, Nat.reduceEqDiff, Nat.reduceAdd, Nat.reduceSub, Nat.reduceLeDiff, reduceCtorEq, e15, eg0, eg1, e0, e1, e2, e8]); try rfl, by (try simp only [go_sem, ↓reduceIte, Nat.reduceEqDiff, Nat.reduceAdd, Nat.reduceSub, Nat.reduceLeDiff, reduceCtorEq, e15, eg0, eg1, e0, e1, e2, e8]); try rfl, ⟨oid, by simp only [go_sem, ↓reduceIte, Nat.reduceEqDiff, Nat.reduceAdd, Nat.reduceSub, Nat.reduceLeDiff, reduceCtorEq, e7], by simp only [go_sem, ↓reduceIte, Nat.reduceEqDiff, Nat.reduceAdd, Nat.reduceSub, Nat.reduceLeDiff, reduceCtorEq, eo], hO⟩⟩ ?_
      rintro n_f env_f st_f ⟨k, rfl, fle, f16, fg0, fg1, fI0⟩ ffr
      have f0 := ffr 0 (by kernel_rfl); have f1 := ffr 1 (by kernel_rfl); have f2 := ffr 2 (by kernel_rfl); have f8 := ffr 8 (by kernel_rfl); have f15 := ffr 15 (by kernel_rfl)
      simp only [go_sem, ↓reduceIte, Nat.reduceEqDiff, Nat.reduceAdd, Nat.reduceSub, Nat.reduceLeDiff, reduceCtorEq, e15, eg0, eg1, e0, e1, e2, e8] at f0 f1 f2 f8 f15
      clear ffr
      clear x1 x2 hO eo e7
      obtain ⟨oid, f7, fo, hO⟩ := fI0
      have x1 := hO.ne
      have x2 := hO.ne'
      have x5 := out_near hO hNs
      have x6 := near_out hO hNs
      by_cases hkf : (k : Int) < (s.g_Tiles.length : Int)
      · have nextf : ∀ {e : Env} {gg : Rows}, (e 16 = .int .i64 (IntKind.i64.wrap ((k : Int) + 1))) → (gg ⟨8000000, b⟩ = some ⟨true, 2, [eSet s]⟩) → (gg nid = some ⟨true, 2, ps.map ePoint⟩) → (∃ oid, e 7 = .own oid 0 (endE s temp cells ps q (k + 1)).length ∧ gg oid = some ⟨true, 4, (endE s temp cells ps q (k + 1)).map eEvent⟩ ∧ OutSite oid) → ∃ m0, m0 < (s.g_Tiles.length) - k ∧ ∃ k : Nat, m0 = (s.g_Tiles.length) - k ∧ k ≤ (s.g_Tiles.length) ∧ e 16 = .int .i64 (k : Int) ∧ gg ⟨8000000, b⟩ = some ⟨true, 2, [eSet s]⟩ ∧ gg nid = some ⟨true, 2, ps.map ePoint⟩ ∧ (∃ oid, e 7 = .own oid 0 (endE s temp cells ps q k).length ∧ gg oid = some ⟨true, 4, (endE s temp cells ps q k).map eEvent⟩ ∧ OutSite oid) := fun x1 x2 x3 x4 => ⟨_, by omega, k + 1, rfl, by omega, (by rw [x1, wrap_succ2 (by omega)]), x2, x3, x4⟩
        have hkn : k < s.g_Tiles.length := by omega
        have hatt := l31CanAtt_v s temp cells (pAt ps q) k hkn hg1 hg2 hS hSS hF
        rw [show decide (temp ≤ strN s cells (pAt ps q) (tileAt s k) 4) = attB s temp cells (pAt ps q) k from rfl] at hatt
        have hml : (endE s temp cells ps q k).length ≤ 16777215 := by
          have h1 := evsN_len (s := s) h6 cells.length (Nat.le_refl _)
          have h2 := attsN_len (s := s) (temp := temp) (cells := cells) (ps := ps) q (by omega)
          have h3 := attN_len s temp cells (pAt ps q) k
          have h4 : q * s.g_Tiles.length ≤ 320 * 160 := Nat.mul_le_mul (by omega) h160
          rw [endE, List.length_append, List.length_append]; omega
        cases hcb : attB s temp cells (pAt ps q) k
        · (repeat (first | ((first | apply w_seq | apply w_reg); intro N hN) | ((first | (apply w_op; intro N hN) | apply w_condB); simp only [go_sem, ↓reduceIte, Nat.reduceEqDiff, Nat.reduceAdd, Nat.reduceSub, Nat.reduceLeDiff, reduceCtorEq, f16, fg0, fg1, f0, f1, f2, f8, f15, f7, hkf, hq, hgq, hcb, x1, x2, x3, x4, eEvent, eSet, ePoint]; first | (refine hN _ _ ?_; clear hN N) | (rfl; change wpv _ _ _ _ _) | skip) | (apply w_nil; refine hN _ _ ?_; clear hN N; try (simp only [seqQ, blockQ, ↓reduceIte, Nat.reduceEqDiff]); try (refine hN _ _ ?_; clear hN N)) | apply w_block | ((first | apply w_skip | apply w_exit | apply w_ret); try (simp only [seqQ, blockQ, ↓reduceIte, Nat.reduceEqDiff]); try (refine hN _ _ ?_; clear hN N)) | ((first | refine hN _ _ ?_ | (clear hN N; first | refine hN _ _ ?_ | (clear hN N; first | refine hN _ _ ?_ | (clear hN N; first | refine hN _ _ ?_ | (clear hN N; refine hN _ _ ?_))))); clear hN N) | (refine .inl ⟨_, RetS.x (hatt) ?_, ?_⟩; (focus (simp only [go_sem, ↓reduceIte, Nat.reduceEqDiff, Nat.reduceAdd, Nat.reduceSub, Nat.reduceLeDiff, reduceCtorEq, f16, fg0, fg1, f0, f1, f2, f8, f15, f7, hkf, hq, hgq, hcb, x1, x2, x3, x4, eEvent, eSet, ePoint]; done)); refine hN _ _ ?_; clear hN N)))
          refine nextf ?_ ?_ ?_ (⟨oid, by simp only [go_sem, ↓reduceIte, Nat.reduceEqDiff, Nat.reduceAdd, Nat.reduceSub, Nat.reduceLeDiff, reduceCtorEq, f7, endE_no hcb], by simp only [go_sem, ↓reduceIte, Nat.reduceEqDiff, Nat.reduceAdd, Nat.reduceSub, Nat.reduceLeDiff, reduceCtorEq, fo, endE_no hcb, x1, x2], hO⟩)
          all_goals simp only [go_sem, ↓reduceIte, Nat.reduceEqDiff, Nat.reduceAdd, Nat.reduceSub, Nat.reduceLeDiff, reduceCtorEq, f16, fg0, fg1, f0, f1, f2, f8, f15, eSet, x3, x4]
        · have e2 := map_snoc (endE s temp cells ps q k) ⟨1, pAt ps q, k⟩
          rw [← endE_yes hcb] at e2
          simp only [] at e2
          have e3 : (endE s temp cells ps q (k + 1)).length = (endE s temp cells ps q k).length + 1 := by rw [endE_yes hcb]; simp
          (repeat (first | ((first | apply w_seq | apply w_reg); intro N hN) | ((first | (apply w_op; intro N hN) | apply w_condB); simp only [go_sem, ↓reduceIte, Nat.reduceEqDiff, Nat.reduceAdd, Nat.reduceSub, Nat.reduceLeDiff, reduceCtorEq, f16, fg0, fg1, f0, f1, f2, f8, f15, f7, fo, hkf, hq, hgq, hcb, e2, hml, x1, x2, x3, x4, eEvent, eSet, ePoint]; first | (refine hN _ _ ?_; clear hN N) | (rfl; change wpv _ _ _ _ _) | skip) | (apply w_nil; refine hN _ _ ?_; clear hN N; try (simp only [seqQ, blockQ, ↓reduceIte, Nat.reduceEqDiff]); try (refine hN _ _ ?_; clear hN N)) | apply w_block | ((first | apply w_skip | apply w_exit | apply w_ret); try (simp only [seqQ, blockQ, ↓reduceIte, Nat.reduceEqDiff]); try (refine hN _ _ ?_; clear hN N)) | ((first | refine hN _ _ ?_ | (clear hN N; first | refine hN _ _ ?_ | (clear hN N; first | refine hN _ _ ?_ | (clear hN N; first | refine hN _ _ ?_ | (clear hN N; refine hN _ _ ?_))))); clear hN N) | (refine .inl ⟨_, RetS.x (hatt) ?_, ?_⟩; (focus (simp only [go_sem, ↓reduceIte, Nat.reduceEqDiff, Nat.reduceAdd, Nat.reduceSub, Nat.reduceLeDiff, reduceCtorEq, f16, fg0, fg1, f0, f1, f2, f8, f15, f7, fo, hkf, hq, hgq, hcb, e2, hml, x1, x2, x3, x4, eEvent, eSet, ePoint]; done)); refine hN _ _ ?_; clear hN N)))
          refine nextf ?_ ?_ ?_ (⟨⟨32030003, st_f.next + 3⟩, by simp only [go_sem, ↓reduceIte, Nat.reduceEqDiff, Nat.reduceAdd, Nat.reduceSub, Nat.reduceLeDiff, reduceCtorEq, e3], by simp only [go_sem, ↓reduceIte, Nat.reduceEqDiff, Nat.reduceAdd, Nat.reduceSub, Nat.reduceLeDiff, reduceCtorEq, e2], .inr (.inr rfl)⟩)
          all_goals simp only [go_sem, ↓reduceIte, Nat.reduceEqDiff, Nat.reduceAdd, Nat.reduceSub, Nat.reduceLeDiff, reduceCtorEq, f16, fg0, fg1, f0, f1, f2, f8, f15, eSet, x1, x2, x3, x4, x5, x6]
      · have hkt : k = s.g_Tiles.length := by omega
        subst hkt
        rw [hE1] at f7 fo
        (repeat (first | ((first | apply w_seq | apply w_reg); intro N hN) | ((first | (apply w_op; intro N hN) | apply w_condB); simp only [go_sem, ↓reduceIte, Nat.reduceEqDiff, Nat.reduceAdd, Nat.reduceSub, Nat.reduceLeDiff, reduceCtorEq, f16, fg0, fg1, f0, f1, f2, f8, f15, hkf, eSet]; first | (refine hN _ _ ?_; clear hN N) | (rfl; change wpv _ _ _ _ _) | skip) | (apply w_nil; refine hN _ _ ?_; clear hN N; try (simp only [seqQ, blockQ, ↓reduceIte, Nat.reduceEqDiff]); try (refine hN _ _ ?_; clear hN N)) | apply w_block | ((first | apply w_skip | apply w_exit | apply w_ret); try (simp only [seqQ, blockQ, ↓reduceIte, Nat.reduceEqDiff]); try (refine hN _ _ ?_; clear hN N)) | ((first | refine hN _ _ ?_ | (clear hN N; first | refine hN _ _ ?_ | (clear hN N; first | refine hN _ _ ?_ | (clear hN N; first | refine hN _ _ ?_ | (clear hN N; refine hN _ _ ?_))))); clear hN N)))
        refine nexte ?_ ?_ ?_ (⟨oid, by simp only [go_sem, ↓reduceIte, Nat.reduceEqDiff, Nat.reduceAdd, Nat.reduceSub, Nat.reduceLeDiff, reduceCtorEq, f7], fo, hO⟩)
        all_goals simp only [go_sem, ↓reduceIte, Nat.reduceEqDiff, Nat.reduceAdd, Nat.reduceSub, Nat.reduceLeDiff, reduceCtorEq, f16, fg0, fg1, f0, f1, f2, f8, f15]
    · have hqf : q = ps.length := by omega
      subst hqf
      (repeat (first | ((first | apply w_seq | apply w_reg); intro N hN) | ((first | (apply w_op; intro N hN) | apply w_condB); simp only [go_sem, ↓reduceIte, Nat.reduceEqDiff, Nat.reduceAdd, Nat.reduceSub, Nat.reduceLeDiff, reduceCtorEq, e15, eg0, eg1, e0, e1, e2, e8, e7, hq]; first | (refine hN _ _ ?_; clear hN N) | (rfl; change wpv _ _ _ _ _) | skip) | (apply w_nil; refine hN _ _ ?_; clear hN N; try (simp only [seqQ, blockQ, ↓reduceIte, Nat.reduceEqDiff]); try (refine hN _ _ ?_; clear hN N)) | apply w_block | ((first | apply w_skip | apply w_exit | apply w_ret); try (simp only [seqQ, blockQ, ↓reduceIte, Nat.reduceEqDiff]); try (refine hN _ _ ?_; clear hN N)) | ((first | refine hN _ _ ?_ | (clear hN N; first | refine hN _ _ ?_ | (clear hN N; first | refine hN _ _ ?_ | (clear hN N; first | refine hN _ _ ?_ | (clear hN N; refine hN _ _ ?_))))); clear hN N)))
      exact retO (vs := [.own oid 0 (eventsL s temp cells ps).length]) (.inl rfl) (by simp only [vresL, vres1, go_sem, ↓reduceIte, Nat.reduceEqDiff, Nat.reduceAdd, Nat.reduceSub, Nat.reduceLeDiff, reduceCtorEq, e15, eg0, eg1, e0, e1, e2, e8, e7, eventsL]) ⟨ps, oid, rfl, eo, hR, hP⟩


noncomputable def cellsB (s : D_SignalSet) (cells : List D_SignalCell) : Bool := sigB s && (decide (cells.length ≤ 80) && okL s cells fun i => cellB s cells (cellAt cells i))
noncomputable def askN (s : D_SignalSet) (temp : Int) (cells : List D_SignalCell) : Int := if cellsB s cells then (if inB temp 1 16 then 0 else 2) else 1
/-- What is known of cells that are right. -/
structure CellsOk (s : D_SignalSet) (cells : List D_SignalCell) : Prop where
  set : SigSetOk s
  few : cells.length ≤ 80
  form : ∀ c ∈ cells, FormOk s c
  ris : ∀ i j : Nat, i < j → j < cells.length → ltB (cellAt cells i).g_At (cellAt cells j).g_At = true
theorem lin_ris {cells : List D_SignalCell} (h : ∀ j : Nat, j < cells.length → 0 < j → ltB (cellAt cells (j - 1)).g_At (cellAt cells j).g_At = true) : ∀ j i : Nat, i < j → j < cells.length → ltB (cellAt cells i).g_At (cellAt cells j).g_At = true
  | 0, _, hij, _ => by omega
  | j + 1, i, hij, hj => by
    have h1 := h (j + 1) hj (by omega)
    rw [Nat.add_sub_cancel] at h1
    rcases Nat.lt_or_ge i j with h2 | h2
    · exact ltB_trans (lin_ris h j i h2 (by omega)) h1
    · have : i = j := by omega
      subst this; exact h1
theorem cellsB_ok {s : D_SignalSet} {cells : List D_SignalCell} (h : cellsB s cells = true) : CellsOk s cells := by
  simp only [cellsB, okL, Bool.and_eq_true, List.all_eq_true, List.mem_range, decide_eq_true_eq, linB, Bool.or_eq_true] at h
  obtain ⟨h1, h2, h3, _⟩ := h
  refine ⟨sigB_iff.1 h1, h2, fun c hc => ?_, fun i j hij hj => lin_ris (fun j hj h0 => ?_) j i hij hj⟩
  · obtain ⟨j, hj, rfl⟩ := List.getElem_of_mem hc
    have := (h3 j hj).1
    rw [cellAt_eq hj] at this
    exact form_ok this
  · rcases (h3 j hj).2 with h | h
    · omega
    · exact h
theorem CellsOk.idx {s : D_SignalSet} {cells : List D_SignalCell} (h : CellsOk s cells) (i : Nat) (hi : i < cells.length) : idxN cells (cellAt cells i).g_At = i := by
  rw [idxN, List.findIdx_eq hi]
  refine ⟨by rw [cellAt_eq hi]; simp, fun j hj => ?_⟩
  have := h.ris j i hj hi
  rw [cellAt_eq (by omega), cellAt_eq hi] at this
  rw [cellAt_eq hi]
  simp only [decide_eq_false_iff_not]
  intro hc
  rw [hc, ltB_irr] at this
  cases this
theorem CellsOk.tiles {s : D_SignalSet} {cells : List D_SignalCell} (h : CellsOk s cells) : s.g_Tiles.length ≤ 160 := by
  have := h.set.set.t
  rw [xt_len] at this
  exact this.2
theorem tileAt_N {s : D_SignalSet} {t : Int} : tileAt s t = tN s t.toNat := rfl
theorem CellsOk.six {s : D_SignalSet} {cells : List D_SignalCell} (h : CellsOk s cells) (c : D_SignalCell) (hc : c ∈ cells) : c.g_Fired.length ≤ 6 := by
  have f := h.form c hc
  have h0 := f.t0
  have h1 := f.t1
  rw [f.fired, tileAt_N]
  exact (h.set.tiles _ (by omega)).few

/-- What EventsOf answers. -/
def EvAns (s : D_SignalSet) (temp : Int) (cells : List D_SignalCell) (L : List D_SignalEvent) (code : Int) : Prop :=
  code = askN s temp cells ∧ (code ≠ 0 → L = []) ∧ (code = 0 → ∃ ps, Ris ps ∧ (∀ x, x ∈ ps ↔ nearN cells cells.length 0 x) ∧ L = eventsL s temp cells ps)
theorem EvAns.one {s : D_SignalSet} {temp : Int} {cells : List D_SignalCell} {L L' : List D_SignalEvent} {code code' : Int} (h : EvAns s temp cells L code) (h' : EvAns s temp cells L' code') : L = L' ∧ code = code' := by
  obtain ⟨h1, h2, h3⟩ := h
  obtain ⟨k1, k2, k3⟩ := h'
  have e : code = code' := by rw [h1, k1]
  subst e
  refine ⟨?_, rfl⟩
  by_cases h0 : code = 0
  · obtain ⟨ps, a1, a2, rfl⟩ := h3 h0
    obtain ⟨qs, b1, b2, rfl⟩ := k3 h0
    rw [Ris.ext a1 b1 fun x => by rw [a2, b2]]
  · rw [h2 h0, k2 h0]

theorem l31OkAll_v (s : D_SignalSet) (cells : List D_SignalCell) (hs : SmallSet s) (hn : SmallNames s) : RetS Tryz.prog 62 [.iptr (eSet s), .sl (cells.map eCell)] (.bool (cellsB s cells)) :=
  l31Ok_v s cells (sigB s) _ (l31Set_v s hs hn) (fun h => (sigB_iff.1 h).form) fun hS hF i hi => by rw [cellAt_eq hi]; exact l31Cell_v s cells i hi hS hF

set_option maxRecDepth 100000 in
set_option maxHeartbeats 4000000 in
theorem sEventsOf_v (s : D_SignalSet) (temp : Int) (cells : List D_SignalCell) (hs : SmallSet s) (hn : SmallNames s) (σ : Store) :
    Call Tryz.prog 8 [.agg (eSet s), .int .i64 temp, .sl (cells.map eCell)] σ fun r σ' => ∃ L code oid, r = .tup [.own oid 0 L.length, .int .i64 code] ∧ σ'.get oid = some ⟨true, 4, L.map eEvent⟩ ∧ EvAns s temp cells L code := by
  refine CallB cf8 rfl fun hl => ?_
  try simp only [q]
  clear hl
  have hask := l31Asked_v s cells temp _ (l31OkAll_v s cells hs hn)
  rw [show (if cellsB s cells then (if inB temp 1 16 then (0 : Int) else 2) else 1) = askN s temp cells from rfl] at hask
  by_cases h0 : askN s temp cells = 0
  · have hok : CellsOk s cells := cellsB_ok (by
      unfold askN at h0
      split at h0
      · assumption
      · cases h0)
    (repeat (first | ((first | apply w_seq | apply w_reg); intro N hN) | ((first | (apply w_op; intro N hN) | apply w_condB); simp only [go_sem, ↓reduceIte, Nat.reduceEqDiff, Nat.reduceAdd, Nat.reduceSub, Nat.reduceLeDiff, reduceCtorEq, h0, eSet]; first | (refine hN _ _ ?_; clear hN N) | (rfl; change wpv _ _ _ _ _) | skip) | (apply w_nil; refine hN _ _ ?_; clear hN N; try (simp only [seqQ, blockQ, ↓reduceIte, Nat.reduceEqDiff]); try (refine hN _ _ ?_; clear hN N)) | apply w_block | ((first | apply w_skip | apply w_exit | apply w_ret); try (simp only [seqQ, blockQ, ↓reduceIte, Nat.reduceEqDiff]); try (refine hN _ _ ?_; clear hN N)) | ((first | refine hN _ _ ?_ | (clear hN N; first | refine hN _ _ ?_ | (clear hN N; first | refine hN _ _ ?_ | (clear hN N; first | refine hN _ _ ?_ | (clear hN N; refine hN _ _ ?_))))); clear hN N) | (refine .inl ⟨_, RetS.x (hask) ?_, ?_⟩; (focus (simp only [go_sem, ↓reduceIte, Nat.reduceEqDiff, Nat.reduceAdd, Nat.reduceSub, Nat.reduceLeDiff, reduceCtorEq, h0, eSet]; done)); refine hN _ _ ?_; clear hN N)))
    refine .inr ?_
    refine Call_mono _ _ _ _ _ (fun r σ' hq => ?_) (l31Events_v s temp cells hok.set.form hok.set.ssides hok.form hok.few hok.tiles hok.six hok.idx _ σ.next (by simp only [go_sem, ↓reduceIte, Nat.reduceEqDiff, Nat.reduceAdd, Nat.reduceSub, Nat.reduceLeDiff, reduceCtorEq, eSet]))
    obtain ⟨ps, oid, rfl, ho, hR, hP⟩ := hq
    refine hN _ _ ?_
    clear hN N
    (repeat (first | ((first | apply w_seq | apply w_reg); intro N hN) | ((first | (apply w_op; intro N hN) | apply w_condB); simp only [go_sem, ↓reduceIte, Nat.reduceEqDiff, Nat.reduceAdd, Nat.reduceSub, Nat.reduceLeDiff, reduceCtorEq]; first | (refine hN _ _ ?_; clear hN N) | (rfl; change wpv _ _ _ _ _) | skip) | (apply w_nil; refine hN _ _ ?_; clear hN N; try (simp only [seqQ, blockQ, ↓reduceIte, Nat.reduceEqDiff]); try (refine hN _ _ ?_; clear hN N)) | apply w_block | ((first | apply w_skip | apply w_exit | apply w_ret); try (simp only [seqQ, blockQ, ↓reduceIte, Nat.reduceEqDiff]); try (refine hN _ _ ?_; clear hN N)) | ((first | refine hN _ _ ?_ | (clear hN N; first | refine hN _ _ ?_ | (clear hN N; first | refine hN _ _ ?_ | (clear hN N; first | refine hN _ _ ?_ | (clear hN N; refine hN _ _ ?_))))); clear hN N)))
    exact retO (vs := [.own oid 0 (eventsL s temp cells ps).length, .int .i64 0]) (.inl rfl) (by simp only [vresL, vres1, go_sem, ↓reduceIte, Nat.reduceEqDiff, Nat.reduceAdd, Nat.reduceSub, Nat.reduceLeDiff, reduceCtorEq]) ⟨_, 0, oid, rfl, ho, h0.symm, fun h => absurd rfl h, fun _ => ⟨ps, hR, hP, rfl⟩⟩
  · (repeat (first | ((first | apply w_seq | apply w_reg); intro N hN) | ((first | (apply w_op; intro N hN) | apply w_condB); simp only [go_sem, ↓reduceIte, Nat.reduceEqDiff, Nat.reduceAdd, Nat.reduceSub, Nat.reduceLeDiff, reduceCtorEq, h0, eSet]; first | (refine hN _ _ ?_; clear hN N) | (rfl; change wpv _ _ _ _ _) | skip) | (apply w_nil; refine hN _ _ ?_; clear hN N; try (simp only [seqQ, blockQ, ↓reduceIte, Nat.reduceEqDiff]); try (refine hN _ _ ?_; clear hN N)) | apply w_block | ((first | apply w_skip | apply w_exit | apply w_ret); try (simp only [seqQ, blockQ, ↓reduceIte, Nat.reduceEqDiff]); try (refine hN _ _ ?_; clear hN N)) | ((first | refine hN _ _ ?_ | (clear hN N; first | refine hN _ _ ?_ | (clear hN N; first | refine hN _ _ ?_ | (clear hN N; first | refine hN _ _ ?_ | (clear hN N; refine hN _ _ ?_))))); clear hN N) | (refine .inl ⟨_, RetS.x (hask) ?_, ?_⟩; (focus (simp only [go_sem, ↓reduceIte, Nat.reduceEqDiff, Nat.reduceAdd, Nat.reduceSub, Nat.reduceLeDiff, reduceCtorEq, h0, eSet]; done)); refine hN _ _ ?_; clear hN N)))
    exact retO (vs := [.own ⟨8003000, σ.next + 1 + 1 + 1⟩ 0 0, .int .i64 (askN s temp cells)]) (.inl rfl) (by simp only [vresL, vres1, go_sem, ↓reduceIte, Nat.reduceEqDiff, Nat.reduceAdd, Nat.reduceSub, Nat.reduceLeDiff, reduceCtorEq]) ⟨[], _, ⟨8003000, σ.next + 1 + 1 + 1⟩, rfl, by simp only [go_sem, ↓reduceIte, Nat.reduceEqDiff, Nat.reduceAdd, Nat.reduceSub, Nat.reduceLeDiff, reduceCtorEq], rfl, fun _ => rfl, fun h => absurd h h0⟩

end Go.Proofs.YtpbniieiinhliaaGreat.V
