/- The reference puts a point to its place. -/
import Derived.Test.YtpbniieiinhliaaGreatRnH
import Derived.Test.YtpbniieiinhliaaGreatRnJ
import Derived.Test.YtpbniieiinhliaaGreatRnI
set_option linter.unusedVariables false
set_option linter.unusedSimpArgs false
namespace Go.Proofs.YtpbniieiinhliaaGreat.V
open Go.RowKit
attribute [local irreducible] wpv wpOps PCx Call
attribute [local go_sem] wantedV vop qop eop vis evO upd envOf K.av boxOf AV.cells AV.cell rowOf rowsOf part ld rowAt setR killR ibin vbin vsh vclear vsbin sbin eq1 eqL xorB vnil vnilS vnilF hiOf loOf vslice vsliceS viaddr vidxS vidxA vlen vnot vneg vconv vconvS vpick vchk vfield vextract vlenS fillV vmk rowsIn putCs vstore vappend seqQ blockQ most AV.undef callW locP locQ List.getD_cons_zero List.getD_cons_succ List.getD_nil List.all_cons List.all_nil Bool.and_true Bool.true_and Bool.and_self Bool.not_true Bool.not_false Option.map_some Option.map_none Option.bind_some Option.bind_none List.length_cons List.length_nil List.take_succ_cons List.take_zero List.take_nil List.drop_succ_cons List.drop_zero List.drop_nil List.head?_cons List.map_cons List.map_nil List.getElem?_cons_zero List.getElem?_cons_succ List.cons_append List.nil_append List.append_nil List.length_map List.set_cons_zero List.set_cons_succ Nat.reduceMul eq_self Int.toNat_natCast Int.natCast_nonneg and_self true_and and_true decide_true decide_false Bool.false_eq_true Nat.zero_add Nat.add_zero List.contains_cons List.contains_nil Bool.or_false Bool.false_or beq_self_eq_true Nat.reduceBEq ne_eq not_true_eq_false not_false_eq_true Id.mk.injEq false_and and_false Nat.reduceLT Int.reduceLE Int.reduceLT Int.reduceToNat Int.reduceNeg Int.reduceAdd Nat.le_refl List.length_append beq_true beq_false Bool.not_eq_eq_eq_not or_false false_or rw_ fzRow_cons fzRow_nil fz_int fz_bool fz_str fz_sl fz_nils fz_agg fz_iptr fz_ptrE fz_fn

def pAt (ps : List D_Point) (i : Nat) : D_Point := ps.getD i ⟨0, 0⟩
theorem pAt_eq {ps : List D_Point} {i : Nat} (h : i < ps.length) : pAt ps i = ps[i] := by simp [pAt, List.getD_eq_getElem?_getD, h]
theorem pAt_get {ps : List D_Point} {i : Nat} (h : i < ps.length) : (ps.map ePoint)[i]? = some (ePoint (pAt ps i)) := get_map ePoint h
/-- While the elements behind place i move on: place i is free. -/
def shift (ps : List D_Point) (p : D_Point) (i : Nat) : List D_Point := if i < ps.length then ps.take (i + 1) ++ ps.drop i else ps ++ [p]
theorem shift_len {ps : List D_Point} {p : D_Point} {i : Nat} (h : i ≤ ps.length) : (shift ps p i).length = ps.length + 1 := by
  unfold shift; split <;> simp <;> omega
theorem shift_get {ps : List D_Point} {p : D_Point} {i : Nat} (h : i ≤ ps.length) {x : Nat} (hx : x < i) : pAt (shift ps p i) x = pAt ps x := by
  unfold shift pAt
  simp only [List.getD_eq_getElem?_getD]
  split
  · rw [List.getElem?_append_left (by simp; omega), List.getElem?_take_of_lt (by omega)]
  · rw [List.getElem?_append_left (by omega)]
theorem shift_set {ps : List D_Point} {p : D_Point} {i : Nat} (h : i ≤ ps.length) (h0 : 0 < i) : (shift ps p i).set i (pAt ps (i - 1)) = shift ps p (i - 1) := by
  unfold shift
  rw [if_pos (show i - 1 < ps.length by omega), show i - 1 + 1 = i from by omega]
  have e1 : ps.drop (i - 1) = pAt ps (i - 1) :: ps.drop i := by
    rw [pAt_eq (by omega), List.drop_eq_getElem_cons (by omega)]; congr 1; rw [show i - 1 + 1 = i from by omega]
  rw [e1]
  split
  · rw [List.take_succ_eq_append_getElem (by omega), List.append_assoc, List.set_append_right _ _ (by simp; omega)]
    congr 1
    simp [show i - min i ps.length = 0 from by omega]
  · have hi : i = ps.length := by omega
    subst hi
    rw [List.set_append_right _ _ (by omega)]
    simp
theorem shift_put {ps : List D_Point} {p : D_Point} {i : Nat} (h : i ≤ ps.length) : (shift ps p i).set i p = ps.take i ++ p :: ps.drop i := by
  unfold shift
  split
  · rw [List.take_succ_eq_append_getElem (by omega), List.append_assoc, List.set_append_right _ _ (by simp; omega)]
    congr 1
    simp [show i - min i ps.length = 0 from by omega]
  · have hi : i = ps.length := by omega
    subst hi
    rw [List.set_append_right _ _ (by omega)]
    simp
theorem set_map {α β : Type} (e : α → β) (l : List α) (i : Nat) (x : α) : (l.map e).set i (e x) = (l.set i x).map e := by rw [List.map_set]

set_option maxRecDepth 100000 in
set_option maxHeartbeats 4000000 in
theorem l08PutPoint_v (ps : List D_Point) (p : D_Point) (hs : Ris ps) (hlen : ps.length ≤ 1000000) (σ : Store) (id : Id) (hg : σ.get id = some ⟨true, 2, ps.map ePoint⟩)
    (i1 : ∀ v, ¬ (id = ⟨67000000, v⟩)) (i2 : ∀ v, ¬ (id = ⟨67006002, v⟩)) :
    Call Tryz.prog 67 [.own id 0 ps.length, .agg (ePoint p)] σ fun r σ' => ∃ qs id', r = .own id' 0 qs.length ∧ σ'.get id' = some ⟨true, 2, qs.map ePoint⟩ ∧ Ris qs ∧ (∀ x, x ∈ qs ↔ x ∈ ps ∨ x = p) ∧ qs.length ≤ ps.length + 1 ∧
      (id' = id ∨ id'.site = 67006003) ∧ σ.next ≤ σ'.next ∧ ∀ j, j.site / 1000000 ≠ 67 → j ≠ id → σ'.get j = σ.get j := by
  refine CallB cfE rfl fun hl => ?_
  clear hl
  have i1' : ∀ v, ¬ (⟨67000000, v⟩ = id) := fun v h => i1 v h.symm
  have i2' : ∀ v, ¬ (⟨67006002, v⟩ = id) := fun v h => i2 v h.symm
  have ne : ∀ j : Id, j.site / 1000000 ≠ 67 → (∀ v, ¬ (j = ⟨67000000, v⟩)) ∧ (∀ v, ¬ (j = ⟨67006002, v⟩)) ∧ (∀ v, ¬ (j = ⟨67006003, v⟩)) := fun j h => ⟨fun v e => by subst e; exact h (show 67000000 / 1000000 = 67 by decide), fun v e => by subst e; exact h (show 67006002 / 1000000 = 67 by decide), fun v e => by subst e; exact h (show 67006003 / 1000000 = 67 by decide)⟩
  (try ((repeat (revert hN; revert N; apply Pn.out)); refine wk (tw @hg (tw @i1 @i2)) ?_; (repeat (refine Pn.mk ?_; intro N hN))))
  refine w_loopF (fun n env st => ∃ k : Nat, n = (ps.length) - k ∧ k ≤ (ps.length) ∧ env 5 = .int .i64 ((ps.length - k : Nat) : Int) ∧ st.get ⟨67000000, σ.next⟩ = some ⟨true, 2, [ePoint p]⟩ ∧ st.get id = some ⟨true, 2, ps.map ePoint⟩ ∧ (σ.next ≤ st.next ∧ (∀ j : Id, j.site / 1000000 ≠ 67 → j ≠ id → st.get j = σ.get j)) ∧ (∀ j : Nat, j < k → ltB (pAt ps (ps.length - 1 - j)) p = false)) (ps.length) ⟨0, by omega, by omega, by (try simp only [go_sem, ↓reduceIte, Nat.reduceEqDiff, Nat.reduceAdd, Nat.reduceSub, Nat.reduceLeDiff, reduceCtorEq, hg, i1, i2, i1', i2', ePoint]); try rfl, by (try simp only [go_sem, ↓reduceIte, Nat.reduceEqDiff, Nat.reduceAdd, Nat.reduceSub, Nat.reduceLeDiff, reduceCtorEq, hg, i1, i2, i1', i2', ePoint]); try rfl, by (try simp only [go_sem, ↓reduceIte, Nat.reduceEqDiff, Nat.reduceAdd, Nat.reduceSub, Nat.reduceLeDiff, reduceCtorEq, hg, i1, i2, i1', i2', ePoint]); try rfl, ⟨by (try dsimp only); omega, fun j h1 h2 => sd ((ne j h1).1)⟩, fun _ h => absurd h (Nat.not_lt_zero _)⟩ ?_
  rintro n_a env_a st_a ⟨k, rfl, ale, a5, ag0, ag1, aI0, aA0⟩ afr
  have a0 := afr 0 (by kernel_rfl); have a3 := afr 3 (by kernel_rfl)
  simp only [go_sem, ↓reduceIte, Nat.reduceEqDiff, Nat.reduceAdd, Nat.reduceSub, Nat.reduceLeDiff, reduceCtorEq, hg, i1, i2, i1', i2', ePoint] at a0 a3
  clear afr
  have fin : ∀ {e : Env} {s : Store} (J : Nat), J ≤ ps.length → (∀ i (hi : i < ps.length), J ≤ i → ltB ps[i] p = false) → (∀ i (hi : i < ps.length), i < J → ltB ps[i] p = true) → e 0 = .own id 0 ps.length → e 3 = .ptr ⟨67000000, σ.next⟩ 0 0 → e 5 = .int .i64 (J : Int) →
      s.get ⟨67000000, σ.next⟩ = some ⟨true, 2, [ePoint p]⟩ → s.get id = some ⟨true, 2, ps.map ePoint⟩ → σ.next ≤ s.next → (∀ j : Id, j.site / 1000000 ≠ 67 → j ≠ id → s.get j = σ.get j) → N e s := by
    intro e s J hJ hge hlt h0 h3 h5 g0 g1 hnx hfr
    refine hN _ _ ?_
    clear hN a0 a3 aI0 aA0 ag0 ag1
    refine w_seq fun N hN => ?_
    have fin2 : ∀ {e : Env} {s : Store}, (∀ hi : J < ps.length, ps[J] ≠ p) → e 0 = .own id 0 ps.length → e 3 = .ptr ⟨67000000, σ.next⟩ 0 0 → e 5 = .int .i64 (J : Int) →
        s.get ⟨67000000, σ.next⟩ = some ⟨true, 2, [ePoint p]⟩ → s.get id = some ⟨true, 2, ps.map ePoint⟩ → σ.next ≤ s.next → (∀ j : Id, j.site / 1000000 ≠ 67 → j ≠ id → s.get j = σ.get j) → N e s := by
      clear h0 h3 h5 g0 g1 hnx hfr
      intro e s hne h0 h3 h5 g0 g1 hnx hfr
      refine hN _ _ ?_
      clear hN
      have l1 : ps.length ≤ 16777215 := by omega
      have l2 : ps.map ePoint ++ [[.int .i64 p.g_X, .int .i64 p.g_Y]] = (shift ps p ps.length).map ePoint := by rw [shift, if_neg (Nat.lt_irrefl _), List.map_append]; rfl
      have l3 : IntKind.i64.wrap (((ps.length + 1 : Nat) : Int) - 1) = (ps.length : Int) := by rw [wrap_id (by omega)]; omega
      (try ((repeat (revert hN; revert N; apply Pn.out)); refine wk (tw @h0 (tw @h3 (tw @h5 (tw @g0 (tw @g1 (tw @i1 (tw @i2 (tw @i1' (tw @i2' (tw @l1 (tw @l2 (tw @l3 @ePoint.eq_1)))))))))))) ?_; (repeat (refine Pn.mk ?_; intro N hN))))
      refine w_loopF (fun n env st => ∃ m : Nat, n = (ps.length - J) - m ∧ m ≤ (ps.length - J) ∧ env 6 = .int .i64 ((ps.length - m : Nat) : Int) ∧ st.get ⟨67000000, σ.next⟩ = some ⟨true, 2, [ePoint p]⟩ ∧ st.get ⟨67006003, s.next⟩ = some ⟨true, 2, (shift ps p (ps.length - m)).map ePoint⟩ ∧ (σ.next ≤ st.next ∧ (∀ j : Id, j.site / 1000000 ≠ 67 → j ≠ id → st.get j = σ.get j))) (ps.length - J) ⟨0, by omega, by omega, by (try simp only [go_sem, ↓reduceIte, Nat.reduceEqDiff, Nat.reduceAdd, Nat.reduceSub, Nat.reduceLeDiff, reduceCtorEq, h0, h3, h5, g0, g1, i1, i2, i1', i2', l2, l3, ePoint]); try rfl, by (try simp only [go_sem, ↓reduceIte, Nat.reduceEqDiff, Nat.reduceAdd, Nat.reduceSub, Nat.reduceLeDiff, reduceCtorEq, h0, h3, h5, g0, g1, i1, i2, i1', i2', l2, l3, ePoint]); try rfl, by (try simp only [go_sem, ↓reduceIte, Nat.reduceEqDiff, Nat.reduceAdd, Nat.reduceSub, Nat.reduceLeDiff, reduceCtorEq, h0, h3, h5, g0, g1, i1, i2, i1', i2', l2, l3, ePoint]); try rfl, ⟨by (try dsimp only); omega, fun j h1 h2 => sd (tw ((ne j h1).1) (tw ((ne j h1).2.1) (tw ((ne j h1).2.2) (tw @h2 (hfr j h1 h2)))))⟩⟩ ?_
      rintro n_b env_b st_b ⟨m, rfl, ble, b6, bg0, bg1, bI0⟩ bfr
      have b0 := bfr 0 (by kernel_rfl); have b3 := bfr 3 (by kernel_rfl); have b5 := bfr 5 (by kernel_rfl)
      simp only [go_sem, ↓reduceIte, Nat.reduceEqDiff, Nat.reduceAdd, Nat.reduceSub, Nat.reduceLeDiff, reduceCtorEq, h0, h3, h5, g0, g1, i1, i2, i1', i2', l2, l3, ePoint] at b0 b3 b5
      clear bfr
      clear h0 h3 h5 g0 g1 hnx hfr
      obtain ⟨hnx, hfr⟩ := bI0
      have hx : ∀ j : Id, j.site / 1000000 ≠ 67 → ¬ (j = ⟨67006003, s.next⟩) := fun j h => (ne j h).2.2 _
      by_cases hm : (J : Int) < ((ps.length - m : Nat) : Int)
      · have nextb : ∀ {e : Env} {gg : Rows} {nx : Nat}, (e 6 = .int .i64 ((ps.length - (m + 1) : Nat) : Int)) → (gg ⟨67000000, σ.next⟩ = some ⟨true, 2, [ePoint p]⟩) → (gg ⟨67006003, s.next⟩ = some ⟨true, 2, (shift ps p (ps.length - (m + 1))).map ePoint⟩) → (σ.next ≤ nx ∧ (∀ j : Id, j.site / 1000000 ≠ 67 → j ≠ id → gg j = σ.get j)) → ∃ m0, m0 < (ps.length - J) - m ∧ ∃ m : Nat, m0 = (ps.length - J) - m ∧ m ≤ (ps.length - J) ∧ e 6 = .int .i64 ((ps.length - m : Nat) : Int) ∧ gg ⟨67000000, σ.next⟩ = some ⟨true, 2, [ePoint p]⟩ ∧ gg ⟨67006003, s.next⟩ = some ⟨true, 2, (shift ps p (ps.length - m)).map ePoint⟩ ∧ (σ.next ≤ nx ∧ (∀ j : Id, j.site / 1000000 ≠ 67 → j ≠ id → gg j = σ.get j)) := fun x1 x2 x3 x4 => ⟨_, by omega, m + 1, rfl, by omega, x1, x2, x3, x4⟩
        have e1 : IntKind.i64.wrap (((ps.length - m : Nat) : Int) - 1) = ((ps.length - (m + 1) : Nat) : Int) := by rw [wrap_id (by omega)]; omega
        have e2 : ((ps.length - (m + 1) : Nat) : Int) < ((ps.length + 1 : Nat) : Int) := by omega
        have e3 : ((ps.length - m : Nat) : Int) < ((ps.length + 1 : Nat) : Int) := by omega
        have hsl := shift_len (ps := ps) (p := p) (i := ps.length - m) (by omega)
        have e4 : ((shift ps p (ps.length - m)).map ePoint)[ps.length - (m + 1)]? = some (ePoint (pAt ps (ps.length - (m + 1)))) := by rw [pAt_get (by omega), shift_get (by omega) (by omega)]
        have e5 : ((shift ps p (ps.length - m)).map ePoint)[ps.length - m]? = some (ePoint (pAt (shift ps p (ps.length - m)) (ps.length - m))) := pAt_get (by omega)
        have e6 : ((shift ps p (ps.length - m)).map ePoint).set (ps.length - m) [.int .i64 (pAt ps (ps.length - (m + 1))).g_X, .int .i64 (pAt ps (ps.length - (m + 1))).g_Y] = (shift ps p (ps.length - (m + 1))).map ePoint := by
          have := shift_set (ps := ps) (p := p) (i := ps.length - m) (by omega) (by omega)
          rw [show ps.length - m - 1 = ps.length - (m + 1) from by omega] at this
          rw [← this, ← set_map]; rfl
        (try ((repeat (revert hN; revert N; apply Pn.out)); refine wk (tw @b6 (tw @bg0 (tw @bg1 (tw @b0 (tw @b3 (tw @b5 (tw @hm (tw @e1 (tw @e2 (tw @e3 (tw @e4 (tw @e5 (tw @e6 @ePoint.eq_1))))))))))))) ?_; (repeat (refine Pn.mk ?_; intro N hN))))
        refine nextb ?_ ?_ ?_ (⟨by (try dsimp only); omega, fun j h1 h2 => sd (tw (hx j h1) (hfr j h1 h2))⟩)
        all_goals simp only [go_sem, ↓reduceIte, Nat.reduceEqDiff, Nat.reduceAdd, Nat.reduceSub, Nat.reduceLeDiff, reduceCtorEq, b6, bg0, bg1, b0, b3, b5, e1, e6, ePoint]
      · have hmJ : ps.length - m = J := by omega
        rw [hmJ] at bg1
        have hsl := shift_len (ps := ps) (p := p) (i := J) (by omega)
        have e3 : (J : Int) < ((ps.length + 1 : Nat) : Int) := by omega
        have e5 : ((shift ps p J).map ePoint)[J]? = some (ePoint (pAt (shift ps p J) J)) := pAt_get (by omega)
        have e6 : ((shift ps p J).map ePoint).set J [.int .i64 p.g_X, .int .i64 p.g_Y] = (ps.take J ++ p :: ps.drop J).map ePoint := by rw [← shift_put hJ, ← set_map]; rfl
        (try ((repeat (revert hN; revert N; apply Pn.out)); refine wk (tw @b6 (tw @bg0 (tw @bg1 (tw @b0 (tw @b3 (tw @b5 (tw @hm (tw @e3 (tw @e5 (tw @e6 @ePoint.eq_1)))))))))) ?_; (repeat (refine Pn.mk ?_; intro N hN))))
        have hql : (ps.take J ++ p :: ps.drop J).length = ps.length + 1 := by simp; omega
        refine retO (vs := [.own ⟨67006003, s.next⟩ 0 (ps.length + 1)]) (.inl rfl) (by simp only [vresL, vres1, go_sem, ↓reduceIte, Nat.reduceEqDiff, Nat.reduceAdd, Nat.reduceSub, Nat.reduceLeDiff, reduceCtorEq, b6, bg0, bg1, b0, b3, b5]) ⟨ps.take J ++ p :: ps.drop J, ⟨67006003, s.next⟩, by rw [hql]; rfl, sd @e6, hs.put hJ hge hlt hne, put_mem J, by omega, .inr rfl, by (try dsimp only); omega, fun j h1 h2 => sd (tw (hx j h1) (hfr j h1 h2))⟩
    clear hN
    by_cases hJl : (J : Int) < (ps.length : Int)
    · have e3 : (ps.map ePoint)[J]? = some (ePoint (pAt ps J)) := pAt_get (by omega)
      cases he : (decide ((pAt ps J).g_X = p.g_X) && decide ((pAt ps J).g_Y = p.g_Y))
      · (try ((repeat (revert hN; revert N; apply Pn.out)); refine wk (tw @h0 (tw @h3 (tw @h5 (tw @g0 (tw @g1 (tw @hJl (tw @e3 (tw @he @ePoint.eq_1)))))))) ?_; (repeat (refine Pn.mk ?_; intro N hN))))
        refine fin2 (fun hi hc => ?_) (sd @h0) (sd @h3) (sd @h5) (sd (tw @g0 @ePoint.eq_1)) (sd @g1) (by (try dsimp only); omega) hfr
        rw [pt_eq, pAt_eq hi, hc] at he
        simp at he
      · (try ((repeat (revert hN; revert N; apply Pn.out)); refine wk (tw @h0 (tw @h3 (tw @h5 (tw @g0 (tw @g1 (tw @hJl (tw @e3 (tw @he @ePoint.eq_1)))))))) ?_; (repeat (refine Pn.mk ?_; intro N hN))))
        rw [pt_eq, decide_eq_true_eq, pAt_eq (by omega)] at he
        refine retO (vs := [.own id 0 ps.length]) (.inl rfl) (by simp only [vresL, vres1, go_sem, ↓reduceIte, Nat.reduceEqDiff, Nat.reduceAdd, Nat.reduceSub, Nat.reduceLeDiff, reduceCtorEq]) ⟨ps, id, rfl, g1, hs, fun x => ⟨.inl, fun h => ?_⟩, by omega, .inl rfl, by (try dsimp only); omega, hfr⟩
        rcases h with h | h
        · exact h
        · rw [h, ← he]; exact List.getElem_mem _
    · (try ((repeat (revert hN; revert N; apply Pn.out)); refine wk (tw @h0 (tw @h3 (tw @h5 (tw @g0 (tw @g1 @hJl))))) ?_; (repeat (refine Pn.mk ?_; intro N hN))))
      exact fin2 (fun hi => by omega) (sd @h0) (sd @h3) (sd @h5) (sd (tw @g0 @ePoint.eq_1)) (sd @g1) (by (try dsimp only); omega) hfr
  clear hN
  have hbelow : ∀ i (hi : i < ps.length), ps.length - k ≤ i → ltB ps[i] p = false := fun i hi h => by
    have := aA0 (ps.length - 1 - i) (by omega)
    rw [show ps.length - 1 - (ps.length - 1 - i) = i from by omega, pAt_eq hi] at this
    exact this
  obtain ⟨hnx, hfr⟩ := aI0
  by_cases hk : (0 : Int) < ((ps.length - k : Nat) : Int)
  · have nexta : ∀ {e : Env} {gg : Rows} {nx : Nat}, (e 5 = .int .i64 ((ps.length - (k + 1) : Nat) : Int)) → (gg ⟨67000000, σ.next⟩ = some ⟨true, 2, [ePoint p]⟩) → (gg id = some ⟨true, 2, ps.map ePoint⟩) → (σ.next ≤ nx ∧ (∀ j : Id, j.site / 1000000 ≠ 67 → j ≠ id → gg j = σ.get j)) → (ltB (pAt ps (ps.length - 1 - k)) p = false) → ∃ m0, m0 < (ps.length) - k ∧ ∃ k : Nat, m0 = (ps.length) - k ∧ k ≤ (ps.length) ∧ e 5 = .int .i64 ((ps.length - k : Nat) : Int) ∧ gg ⟨67000000, σ.next⟩ = some ⟨true, 2, [ePoint p]⟩ ∧ gg id = some ⟨true, 2, ps.map ePoint⟩ ∧ (σ.next ≤ nx ∧ (∀ j : Id, j.site / 1000000 ≠ 67 → j ≠ id → gg j = σ.get j)) ∧ (∀ j : Nat, j < k → ltB (pAt ps (ps.length - 1 - j)) p = false) := fun x1 x2 x3 x4 x5 => ⟨_, by omega, k + 1, rfl, by omega, x1, x2, x3, x4, (all_succ aA0 x5)⟩
    have e1 : IntKind.i64.wrap (((ps.length - k : Nat) : Int) - 1) = ((ps.length - (k + 1) : Nat) : Int) := by rw [wrap_id (by omega)]; omega
    have e2 : ((ps.length - (k + 1) : Nat) : Int) < (ps.length : Int) := by omega
    have e3 : (ps.map ePoint)[ps.length - (k + 1)]? = some (ePoint (pAt ps (ps.length - (k + 1)))) := pAt_get (by omega)
    cases hl : ltB (pAt ps (ps.length - (k + 1))) p
    · (repeat (first | ((repeat (revert hN; revert N; apply Pn.out)); refine wk (tw @a5 (tw @ag0 (tw @ag1 (tw @a0 (tw @a3 (tw @hk (tw @e1 (tw @e2 (tw @e3 (tw @hl @ePoint.eq_1)))))))))) ?_; (repeat (refine Pn.mk ?_; intro N hN))) | ((try apply Or.inl); refine ⟨_, Ret.x (sLess_v (pAt ps (ps.length - (k + 1))) p) _, ?_⟩; refine hN _ _ ?_; clear hN N)))
      refine nexta ?_ ?_ ?_ (⟨by (try dsimp only); omega, hfr⟩) (by rw [show ps.length - 1 - k = ps.length - (k + 1) from by omega]; exact hl)
      all_goals simp only [go_sem, ↓reduceIte, Nat.reduceEqDiff, Nat.reduceAdd, Nat.reduceSub, Nat.reduceLeDiff, reduceCtorEq, a5, ag0, ag1, a0, a3, e1, ePoint]
    · (repeat (first | ((repeat (revert hN; revert N; apply Pn.out)); refine wk (tw @a5 (tw @ag0 (tw @ag1 (tw @a0 (tw @a3 (tw @hk (tw @e1 (tw @e2 (tw @e3 (tw @hl @ePoint.eq_1)))))))))) ?_; (repeat (refine Pn.mk ?_; intro N hN))) | ((try apply Or.inl); refine ⟨_, Ret.x (sLess_v (pAt ps (ps.length - (k + 1))) p) _, ?_⟩; refine hN _ _ ?_; clear hN N)))
      refine fin (ps.length - k) (by omega) hbelow (fun i hi hij => ?_) (sd (tw @a5 (tw @ag0 (tw @ag1 (tw @a0 @a3))))) (sd (tw @a5 (tw @ag0 (tw @ag1 (tw @a0 @a3))))) (sd (tw @a5 (tw @ag0 (tw @ag1 (tw @a0 @a3))))) (sd (tw @a5 (tw @ag0 (tw @ag1 (tw @a0 (tw @a3 @ePoint.eq_1)))))) (sd (tw @a5 (tw @ag0 (tw @ag1 (tw @a0 @a3))))) (by (try dsimp only); omega) hfr
      rw [pAt_eq (by omega)] at hl
      rcases Nat.lt_or_ge i (ps.length - (k + 1)) with h | h
      · exact ltB_trans (hs.get h (by omega)) hl
      · have : i = ps.length - (k + 1) := by omega
        subst this; exact hl
  · (try ((repeat (revert hN; revert N; apply Pn.out)); refine wk (tw @a5 (tw @ag0 (tw @ag1 (tw @a0 (tw @a3 @hk))))) ?_; (repeat (refine Pn.mk ?_; intro N hN))))
    refine fin (ps.length - k) (by omega) hbelow (fun i hi hij => by omega) (sd (tw @a5 (tw @ag0 (tw @ag1 (tw @a0 @a3))))) (sd (tw @a5 (tw @ag0 (tw @ag1 (tw @a0 @a3))))) (sd (tw @a5 (tw @ag0 (tw @ag1 (tw @a0 @a3))))) (sd (tw @a5 (tw @ag0 (tw @ag1 (tw @a0 (tw @a3 @ePoint.eq_1)))))) (sd (tw @a5 (tw @ag0 (tw @ag1 (tw @a0 @a3))))) (by (try dsimp only); omega) hfr


def noEv : D_SignalEvent := ⟨0, ⟨0, 0⟩, 0⟩
def eA (l : List D_SignalEvent) (k : Nat) : D_SignalEvent := l.getD k noEv
theorem eA_get {l : List D_SignalEvent} {k : Nat} (h : k < l.length) : (l.map eEvent)[k]? = some (eEvent (eA l k)) := get_map eEvent h
/-- A cell's events, possible or not: the first m fires. -/
def allK (c : D_SignalCell) (m : Nat) : List D_SignalEvent := [⟨2, c.g_At, 0⟩, ⟨2, c.g_At, 1⟩] ++ (List.range m).map fun (k : Nat) => ⟨3, c.g_At, k⟩
theorem allK_len (c : D_SignalCell) (m : Nat) : (allK c m).length = 2 + m := by simp [allK]; omega
theorem allK_succ (c : D_SignalCell) (m : Nat) : allK c m ++ [⟨3, c.g_At, m⟩] = allK c (m + 1) := by simp [allK, List.range_succ]
def canB (s : D_SignalSet) (cells : List D_SignalCell) (c : D_SignalCell) (e : D_SignalEvent) : Bool := if e.g_Kind = 2 then bindB s cells c e.g_Num else fireB s c e.g_Num.toNat
def cellEvs (s : D_SignalSet) (cells : List D_SignalCell) (c : D_SignalCell) : List D_SignalEvent := (allK c c.g_Fired.length).filter (canB s cells c)
def attB (s : D_SignalSet) (temp : Int) (cells : List D_SignalCell) (p : D_Point) (k : Nat) : Bool := decide (temp ≤ strN s cells p (tileAt s k) 4)
/-- Attachments at a place: of the first m tiles. -/
def attN (s : D_SignalSet) (temp : Int) (cells : List D_SignalCell) (p : D_Point) (m : Nat) : List D_SignalEvent := ((List.range m).filter (attB s temp cells p)).map fun (k : Nat) => ⟨1, p, k⟩
def evsN (s : D_SignalSet) (cells : List D_SignalCell) (i : Nat) : List D_SignalEvent := (cells.take i).flatMap (cellEvs s cells)
def attsN (s : D_SignalSet) (temp : Int) (cells : List D_SignalCell) (ps : List D_Point) (q : Nat) : List D_SignalEvent := (ps.take q).flatMap fun p => attN s temp cells p s.g_Tiles.length
def eventsL (s : D_SignalSet) (temp : Int) (cells : List D_SignalCell) (ps : List D_Point) : List D_SignalEvent := evsN s cells cells.length ++ attsN s temp cells ps ps.length
def goodP (cells : List D_SignalCell) (x : D_Point) : Prop := ptB x = true ∧ ¬ idxN cells x < cells.length
/-- Free and valid, next to one of the first i cells, or in one of the first m directions from the next one. -/
def nearN (cells : List D_SignalCell) (i m : Nat) (x : D_Point) : Prop := goodP cells x ∧ ((∃ j d : Nat, j < i ∧ d < 4 ∧ stepP (cellAt cells j).g_At d = x) ∨ (∃ d : Nat, d < m ∧ stepP (cellAt cells i).g_At d = x))
theorem nearN_next {cells : List D_SignalCell} {i : Nat} {x : D_Point} : nearN cells i 4 x ↔ nearN cells (i + 1) 0 x := by
  unfold nearN
  constructor
  · rintro ⟨hg, ⟨j, d, hj, hd, h⟩ | ⟨d, hd, h⟩⟩
    · exact ⟨hg, .inl ⟨j, d, by omega, hd, h⟩⟩
    · exact ⟨hg, .inl ⟨i, d, by omega, hd, h⟩⟩
  · rintro ⟨hg, ⟨j, d, hj, hd, h⟩ | ⟨d, hd, h⟩⟩
    · refine ⟨hg, ?_⟩
      by_cases hji : j = i
      · subst hji; exact .inr ⟨d, hd, h⟩
      · exact .inl ⟨j, d, by omega, hd, h⟩
    · omega
theorem nearN_yes {cells : List D_SignalCell} {i m : Nat} {x : D_Point} (hg : goodP cells (stepP (cellAt cells i).g_At m)) : nearN cells i (m + 1) x ↔ nearN cells i m x ∨ x = stepP (cellAt cells i).g_At m := by
  unfold nearN
  constructor
  · rintro ⟨h, k | ⟨d, hd, k⟩⟩
    · exact .inl ⟨h, .inl k⟩
    · by_cases hdm : d = m
      · subst hdm; exact .inr k.symm
      · exact .inl ⟨h, .inr ⟨d, by omega, k⟩⟩
  · rintro (⟨h, k | ⟨d, hd, k⟩⟩ | rfl)
    · exact ⟨h, .inl k⟩
    · exact ⟨h, .inr ⟨d, by omega, k⟩⟩
    · exact ⟨hg, .inr ⟨m, by omega, rfl⟩⟩
theorem nearN_no {cells : List D_SignalCell} {i m : Nat} {x : D_Point} (hg : ¬ goodP cells (stepP (cellAt cells i).g_At m)) : nearN cells i (m + 1) x ↔ nearN cells i m x := by
  unfold nearN
  constructor
  · rintro ⟨h, k | ⟨d, hd, k⟩⟩
    · exact ⟨h, .inl k⟩
    · by_cases hdm : d = m
      · subst hdm; rw [k] at hg; exact absurd h hg
      · exact ⟨h, .inr ⟨d, by omega, k⟩⟩
  · rintro ⟨h, k | ⟨d, hd, k⟩⟩
    · exact ⟨h, .inl k⟩
    · exact ⟨h, .inr ⟨d, by omega, k⟩⟩
theorem filter_take_yes {α : Type} {l : List α} {p : α → Bool} {k : Nat} {d : α} (h : k < l.length) (hp : p (l.getD k d) = true) : (l.take (k + 1)).filter p = (l.take k).filter p ++ [l.getD k d] := by
  have e : l.getD k d = l[k] := by simp [List.getD_eq_getElem?_getD, h]
  rw [e] at hp ⊢
  rw [List.take_succ_eq_append_getElem h, List.filter_append]; simp [hp]
theorem filter_take_no {α : Type} {l : List α} {p : α → Bool} {k : Nat} {d : α} (h : k < l.length) (hp : p (l.getD k d) = false) : (l.take (k + 1)).filter p = (l.take k).filter p := by
  have e : l.getD k d = l[k] := by simp [List.getD_eq_getElem?_getD, h]
  rw [e] at hp
  rw [List.take_succ_eq_append_getElem h, List.filter_append]; simp [hp]
theorem attN_yes {s : D_SignalSet} {temp : Int} {cells : List D_SignalCell} {p : D_Point} {m : Nat} (h : attB s temp cells p m = true) : attN s temp cells p (m + 1) = attN s temp cells p m ++ [⟨1, p, m⟩] := by
  simp [attN, List.range_succ, h]
theorem attN_no {s : D_SignalSet} {temp : Int} {cells : List D_SignalCell} {p : D_Point} {m : Nat} (h : attB s temp cells p m = false) : attN s temp cells p (m + 1) = attN s temp cells p m := by
  simp [attN, List.range_succ, h]
theorem evsN_succ {s : D_SignalSet} {cells : List D_SignalCell} {i : Nat} (h : i < cells.length) : evsN s cells i ++ cellEvs s cells (cellAt cells i) = evsN s cells (i + 1) := by
  rw [evsN, evsN, List.take_succ_eq_append_getElem h, List.flatMap_append, cellAt_eq h]; simp
theorem attsN_succ {s : D_SignalSet} {temp : Int} {cells : List D_SignalCell} {ps : List D_Point} {q : Nat} (h : q < ps.length) : attsN s temp cells ps q ++ attN s temp cells (pAt ps q) s.g_Tiles.length = attsN s temp cells ps (q + 1) := by
  rw [attsN, attsN, List.take_succ_eq_append_getElem h, List.flatMap_append, pAt_eq h]; simp
theorem attN_len (s : D_SignalSet) (temp : Int) (cells : List D_SignalCell) (p : D_Point) (m : Nat) : (attN s temp cells p m).length ≤ m := by
  rw [attN, List.length_map]
  exact Nat.le_trans (List.length_filter_le _ _) (by simp)
theorem cellEvs_len (s : D_SignalSet) (cells : List D_SignalCell) (c : D_SignalCell) : (cellEvs s cells c).length ≤ 2 + c.g_Fired.length := by
  rw [cellEvs, ← allK_len c]; exact List.length_filter_le _ _
theorem evsN_len {s : D_SignalSet} {cells : List D_SignalCell} (h : ∀ c ∈ cells, c.g_Fired.length ≤ 6) : ∀ i, i ≤ cells.length → (evsN s cells i).length ≤ 8 * i
  | 0, _ => by simp [evsN]
  | i + 1, hi => by
    rw [← evsN_succ (by omega), List.length_append]
    have := evsN_len (s := s) h i (by omega)
    have h2 := cellEvs_len s cells (cellAt cells i)
    have h3 := h (cellAt cells i) (by rw [cellAt_eq (by omega)]; exact List.getElem_mem _)
    omega
theorem attsN_len {s : D_SignalSet} {temp : Int} {cells : List D_SignalCell} {ps : List D_Point} : ∀ q, q ≤ ps.length → (attsN s temp cells ps q).length ≤ q * s.g_Tiles.length
  | 0, _ => by simp [attsN]
  | q + 1, hq => by
    rw [← attsN_succ (by omega), List.length_append, Nat.add_mul]
    have := attsN_len (s := s) (temp := temp) (cells := cells) (ps := ps) q (by omega)
    have h2 := attN_len s temp cells (pAt ps q) s.g_Tiles.length
    omega

theorem l31CanAll_v (s : D_SignalSet) (temp : Int) (cells : List D_SignalCell) (i : Nat) (hi : i < cells.length) (k : Nat) (hk : k < (allK (cellAt cells i) (cellAt cells i).g_Fired.length).length) (hix : idxN cells (cellAt cells i).g_At = i) (hS : SetForm s) (hF : ∀ c ∈ cells, FormOk s c) :
    RetS Tryz.prog 45 [.iptr (eSet s), .int .i64 temp, .sl (cells.map eCell), .agg (eEvent (eA (allK (cellAt cells i) (cellAt cells i).g_Fired.length) k))] (.bool (canB s cells (cellAt cells i) (eA (allK (cellAt cells i) (cellAt cells i).g_Fired.length) k))) := by
  rw [cellAt_eq hi] at *
  match k, hk with
  | 0, _ => exact l31CanBind_v s temp cells i hi 0 (.inl rfl) hix hS hF
  | 1, _ => exact l31CanBind_v s temp cells i hi 1 (.inr rfl) hix hS hF
  | k + 2, hk =>
    have hk' : k < cells[i].g_Fired.length := by rw [allK_len] at hk; omega
    have e : eA (allK cells[i] cells[i].g_Fired.length) (k + 2) = ⟨3, cells[i].g_At, k⟩ := by
      simp [eA, allK, List.getD_eq_getElem?_getD, hk']
    rw [e]
    have := l31CanFire_v s temp cells i hi k hk' hix hS hF
    rw [show canB s cells cells[i] ⟨3, cells[i].g_At, k⟩ = fireB s cells[i] k from by simp [canB]]
    exact this

theorem sym_false {α : Type} {a b : α} (h : (a = b) = False) : (b = a) = False := by
  simp only [eq_iff_iff, iff_false] at *; exact fun e => h e.symm
def OutSite (o : Id) : Prop := o.site = 32001000 ∨ o.site = 32015006 ∨ o.site = 32030003
def NearSite (o : Id) : Prop := o.site = 32002000 ∨ o.site = 67006003
def AllSite (o : Id) : Prop := o.site = 32006012 ∨ o.site = 32010009
theorem OutSite.ne {o : Id} (h : OutSite o) (s v : Nat) (h1 : ¬ (s = 32001000)) (h2 : ¬ (s = 32015006)) (h3 : ¬ (s = 32030003)) : (o = ⟨s, v⟩) = False := by
  simp only [eq_iff_iff, iff_false]; rintro rfl; rcases h with h | h | h <;> simp_all
theorem OutSite.ne' {o : Id} (h : OutSite o) (s v : Nat) (h1 : ¬ (s = 32001000)) (h2 : ¬ (s = 32015006)) (h3 : ¬ (s = 32030003)) : (⟨s, v⟩ = o) = False := sym_false (h.ne s v h1 h2 h3)
theorem NearSite.ne {o : Id} (h : NearSite o) (s v : Nat) (h1 : ¬ (s = 32002000)) (h2 : ¬ (s = 67006003)) : (o = ⟨s, v⟩) = False := by
  simp only [eq_iff_iff, iff_false]; rintro rfl; rcases h with h | h <;> simp_all
theorem NearSite.ne' {o : Id} (h : NearSite o) (s v : Nat) (h1 : ¬ (s = 32002000)) (h2 : ¬ (s = 67006003)) : (⟨s, v⟩ = o) = False := sym_false (h.ne s v h1 h2)
theorem AllSite.ne {o : Id} (h : AllSite o) (s v : Nat) (h1 : ¬ (s = 32006012)) (h2 : ¬ (s = 32010009)) : (o = ⟨s, v⟩) = False := by
  simp only [eq_iff_iff, iff_false]; rintro rfl; rcases h with h | h <;> simp_all
theorem AllSite.ne' {o : Id} (h : AllSite o) (s v : Nat) (h1 : ¬ (s = 32006012)) (h2 : ¬ (s = 32010009)) : (⟨s, v⟩ = o) = False := sym_false (h.ne s v h1 h2)
theorem out_near {o n : Id} (h : OutSite o) (k : NearSite n) : (o = n) = False := by
  simp only [eq_iff_iff, iff_false]; rintro rfl; rcases h with h | h | h <;> rcases k with k | k <;> omega
theorem near_out {o n : Id} (h : OutSite o) (k : NearSite n) : (n = o) = False := sym_false (out_near h k)
theorem all_near {o n : Id} (h : AllSite o) (k : NearSite n) : (o = n) = False := by
  simp only [eq_iff_iff, iff_false]; rintro rfl; rcases h with h | h <;> rcases k with k | k <;> omega
theorem near_all {o n : Id} (h : AllSite o) (k : NearSite n) : (n = o) = False := sym_false (all_near h k)
theorem out_all {o n : Id} (h : OutSite o) (k : AllSite n) : (o = n) = False := by
  simp only [eq_iff_iff, iff_false]; rintro rfl; rcases h with h | h | h <;> rcases k with k | k <;> omega
theorem all_out {o n : Id} (h : OutSite o) (k : AllSite n) : (n = o) = False := sym_false (out_all h k)


def midE (s : D_SignalSet) (cells : List D_SignalCell) (i : Nat) (L : List D_SignalEvent) (k : Nat) : List D_SignalEvent := evsN s cells i ++ (L.take k).filter (canB s cells (cellAt cells i))
theorem midE_yes {s : D_SignalSet} {cells : List D_SignalCell} {i : Nat} {L : List D_SignalEvent} {k : Nat} (h : k < L.length) (hp : canB s cells (cellAt cells i) (eA L k) = true) : midE s cells i L (k + 1) = midE s cells i L k ++ [eA L k] := by
  rw [midE, midE, filter_take_yes h hp, List.append_assoc]; rfl
theorem midE_no {s : D_SignalSet} {cells : List D_SignalCell} {i : Nat} {L : List D_SignalEvent} {k : Nat} (h : k < L.length) (hp : canB s cells (cellAt cells i) (eA L k) = false) : midE s cells i L (k + 1) = midE s cells i L k := by
  rw [midE, midE, filter_take_no h hp]
theorem map_snoc (l : List D_SignalEvent) (e : D_SignalEvent) : l.map eEvent ++ [[.int .i64 e.g_Kind, .int .i64 e.g_At.g_X, .int .i64 e.g_At.g_Y, .int .i64 e.g_Num]] = (l ++ [e]).map eEvent := by simp [eEvent]
def endE (s : D_SignalSet) (temp : Int) (cells : List D_SignalCell) (ps : List D_Point) (q k : Nat) : List D_SignalEvent := evsN s cells cells.length ++ attsN s temp cells ps q ++ attN s temp cells (pAt ps q) k
theorem endE_yes {s : D_SignalSet} {temp : Int} {cells : List D_SignalCell} {ps : List D_Point} {q k : Nat} (h : attB s temp cells (pAt ps q) k = true) : endE s temp cells ps q (k + 1) = endE s temp cells ps q k ++ [⟨1, pAt ps q, k⟩] := by
  rw [endE, endE, attN_yes h]; simp
theorem endE_no {s : D_SignalSet} {temp : Int} {cells : List D_SignalCell} {ps : List D_Point} {q k : Nat} (h : attB s temp cells (pAt ps q) k = false) : endE s temp cells ps q (k + 1) = endE s temp cells ps q k := by
  rw [endE, endE, attN_no h]


noncomputable def cellsB (s : D_SignalSet) (cells : List D_SignalCell) : Bool := sigB s && (decide (cells.length ≤ 80) && okL s cells fun i => cellB s cells (cellAt cells i))
noncomputable def askN (s : D_SignalSet) (temp : Int) (cells : List D_SignalCell) : Int := if cellsB s cells then (if inB temp 1 16 then 0 else 2) else 1
/-- What is known of cells that are right. -/
structure CellsOk (s : D_SignalSet) (cells : List D_SignalCell) : Prop where
  set : SigSetOk s
  few : cells.length ≤ 80
  form : ∀ c ∈ cells, FormOk s c
  ris : ∀ i j : Nat, i < j → j < cells.length → ltB (cellAt cells i).g_At (cellAt cells j).g_At = true
theorem lin_ris {cells : List D_SignalCell} (h : ∀ j : Nat, j < cells.length → 0 < j → ltB (cellAt cells (j - 1)).g_At (cellAt cells j).g_At = true) : ∀ j i : Nat, i < j → j < cells.length → ltB (cellAt cells i).g_At (cellAt cells j).g_At = true
  | 0, _, hij, _ => by omega
  | j + 1, i, hij, hj => by
    have h1 := h (j + 1) hj (by omega)
    rw [Nat.add_sub_cancel] at h1
    rcases Nat.lt_or_ge i j with h2 | h2
    · exact ltB_trans (lin_ris h j i h2 (by omega)) h1
    · have : i = j := by omega
      subst this; exact h1
theorem cellsB_ok {s : D_SignalSet} {cells : List D_SignalCell} (h : cellsB s cells = true) : CellsOk s cells := by
  simp only [cellsB, okL, Bool.and_eq_true, List.all_eq_true, List.mem_range, decide_eq_true_eq, linB, Bool.or_eq_true] at h
  obtain ⟨h1, h2, h3, _⟩ := h
  refine ⟨sigB_iff.1 h1, h2, fun c hc => ?_, fun i j hij hj => lin_ris (fun j hj h0 => ?_) j i hij hj⟩
  · obtain ⟨j, hj, rfl⟩ := List.getElem_of_mem hc
    have := (h3 j hj).1
    rw [cellAt_eq hj] at this
    exact form_ok this
  · rcases (h3 j hj).2 with h | h
    · omega
    · exact h
theorem CellsOk.idx {s : D_SignalSet} {cells : List D_SignalCell} (h : CellsOk s cells) (i : Nat) (hi : i < cells.length) : idxN cells (cellAt cells i).g_At = i := by
  rw [idxN, List.findIdx_eq hi]
  refine ⟨by rw [cellAt_eq hi]; simp, fun j hj => ?_⟩
  have := h.ris j i hj hi
  rw [cellAt_eq (by omega), cellAt_eq hi] at this
  rw [cellAt_eq hi]
  simp only [decide_eq_false_iff_not]
  intro hc
  rw [hc, ltB_irr] at this
  cases this
theorem CellsOk.tiles {s : D_SignalSet} {cells : List D_SignalCell} (h : CellsOk s cells) : s.g_Tiles.length ≤ 160 := by
  have := h.set.set.t
  rw [xt_len] at this
  exact this.2
theorem tileAt_N {s : D_SignalSet} {t : Int} : tileAt s t = tN s t.toNat := rfl
theorem CellsOk.six {s : D_SignalSet} {cells : List D_SignalCell} (h : CellsOk s cells) (c : D_SignalCell) (hc : c ∈ cells) : c.g_Fired.length ≤ 6 := by
  have f := h.form c hc
  have h0 := f.t0
  have h1 := f.t1
  rw [f.fired, tileAt_N]
  exact (h.set.tiles _ (by omega)).few

/-- What EventsOf answers. -/
def EvAns (s : D_SignalSet) (temp : Int) (cells : List D_SignalCell) (L : List D_SignalEvent) (code : Int) : Prop :=
  code = askN s temp cells ∧ (code ≠ 0 → L = []) ∧ (code = 0 → ∃ ps, Ris ps ∧ (∀ x, x ∈ ps ↔ nearN cells cells.length 0 x) ∧ L = eventsL s temp cells ps)
theorem EvAns.one {s : D_SignalSet} {temp : Int} {cells : List D_SignalCell} {L L' : List D_SignalEvent} {code code' : Int} (h : EvAns s temp cells L code) (h' : EvAns s temp cells L' code') : L = L' ∧ code = code' := by
  obtain ⟨h1, h2, h3⟩ := h
  obtain ⟨k1, k2, k3⟩ := h'
  have e : code = code' := by rw [h1, k1]
  subst e
  refine ⟨?_, rfl⟩
  by_cases h0 : code = 0
  · obtain ⟨ps, a1, a2, rfl⟩ := h3 h0
    obtain ⟨qs, b1, b2, rfl⟩ := k3 h0
    rw [Ris.ext a1 b1 fun x => by rw [a2, b2]]
  · rw [h2 h0, k2 h0]

theorem l31OkAll_v (s : D_SignalSet) (cells : List D_SignalCell) (hs : SmallSet s) (hn : SmallNames s) : RetS Tryz.prog 62 [.iptr (eSet s), .sl (cells.map eCell)] (.bool (cellsB s cells)) :=
  l31Ok_v s cells (sigB s) _ (l31Set_v s hs hn) (fun h => (sigB_iff.1 h).form) fun hS hF i hi => by rw [cellAt_eq hi]; exact l31Cell_v s cells i hi hS hF


set_option maxRecDepth 100000 in
set_option maxHeartbeats 4000000 in
theorem l31EventsS_v (s : D_SignalSet) (temp : Int) (cells : List D_SignalCell) (hS : SetForm s) (hSS : SetSides s) (hF : ∀ c ∈ cells, FormOk s c) (h80 : cells.length ≤ 80) (h160 : s.g_Tiles.length ≤ 160) (h6 : ∀ c ∈ cells, c.g_Fired.length ≤ 6)
    (hix : ∀ i, i < cells.length → idxN cells (cellAt cells i).g_At = i) (ps0 : List D_Point) (hR0 : Ris ps0) (hP0 : ∀ x, x ∈ ps0 ↔ nearN cells cells.length 0 x) :
    RetS Tryz.prog 32 [.iptr (eSet s), .int .i64 temp, .sl (cells.map eCell)] (.sl ((eventsL s temp cells ps0).map eEvent)) := by
  refine RetS.body cfE rfl fun hl n0 => ?_
  clear hl
  (try ((repeat (revert hN; revert N; apply Pn.out)); refine wk @Nat.zero_add ?_; (repeat (refine Pn.mk ?_; intro N hN))))
  refine w_loopF (fun n env st => ∃ i : Nat, n = (cells.length) - i ∧ i ≤ (cells.length) ∧ env 9 = .int .i64 (i : Int) ∧ (∃ oid nid ps, env 7 = .own oid 0 (evsN s cells i).length ∧ env 8 = .own nid 0 ps.length ∧ st.get oid = some ⟨true, 4, (evsN s cells i).map eEvent⟩ ∧ st.get nid = some ⟨true, 2, ps.map ePoint⟩ ∧ OutSite oid ∧ NearSite nid ∧ Ris ps ∧ (∀ x, x ∈ ps ↔ nearN cells i 0 x) ∧ ps.length ≤ 4 * i)) (cells.length) ⟨0, by omega, by omega, by (try simp only [go_sem, ↓reduceIte, Nat.reduceEqDiff, Nat.reduceAdd, Nat.reduceSub, Nat.reduceLeDiff, reduceCtorEq]); try rfl, ⟨⟨32001000, n0 + 1⟩, ⟨32002000, n0 + 1 + 1⟩, [], by simp only [go_sem, ↓reduceIte, Nat.reduceEqDiff, Nat.reduceAdd, Nat.reduceSub, Nat.reduceLeDiff, reduceCtorEq]; rfl, sd @Nat.zero_add, by simp only [go_sem, ↓reduceIte, Nat.reduceEqDiff, Nat.reduceAdd, Nat.reduceSub, Nat.reduceLeDiff, reduceCtorEq]; rfl, sd @Nat.zero_add, .inl rfl, .inl rfl, List.Pairwise.nil, fun x => by simp [nearN], by simp⟩⟩ ?_
  rintro n_a env_a st_a ⟨i, rfl, ale, a9, aI0⟩ afr
  have a0 := afr 0 (by kernel_rfl); have a1 := afr 1 (by kernel_rfl); have a2 := afr 2 (by kernel_rfl)
  simp only [go_sem, ↓reduceIte, Nat.reduceEqDiff, Nat.reduceAdd, Nat.reduceSub, Nat.reduceLeDiff, reduceCtorEq] at a0 a1 a2
  clear afr
  by_cases hk : (i : Int) < (cells.length : Int)
  · have nexta : ∀ {e : Env} {gg : Rows}, (e 9 = .int .i64 (IntKind.i64.wrap ((i : Int) + 1))) → (∃ oid nid ps, e 7 = .own oid 0 (evsN s cells (i + 1)).length ∧ e 8 = .own nid 0 ps.length ∧ gg oid = some ⟨true, 4, (evsN s cells (i + 1)).map eEvent⟩ ∧ gg nid = some ⟨true, 2, ps.map ePoint⟩ ∧ OutSite oid ∧ NearSite nid ∧ Ris ps ∧ (∀ x, x ∈ ps ↔ nearN cells (i + 1) 0 x) ∧ ps.length ≤ 4 * (i + 1)) → ∃ m0, m0 < (cells.length) - i ∧ ∃ i : Nat, m0 = (cells.length) - i ∧ i ≤ (cells.length) ∧ e 9 = .int .i64 (i : Int) ∧ (∃ oid nid ps, e 7 = .own oid 0 (evsN s cells i).length ∧ e 8 = .own nid 0 ps.length ∧ gg oid = some ⟨true, 4, (evsN s cells i).map eEvent⟩ ∧ gg nid = some ⟨true, 2, ps.map ePoint⟩ ∧ OutSite oid ∧ NearSite nid ∧ Ris ps ∧ (∀ x, x ∈ ps ↔ nearN cells i 0 x) ∧ ps.length ≤ 4 * i) := fun x1 x2 => ⟨_, by omega, i + 1, rfl, by omega, (by rw [x1, wrap_succ2 (by omega)]), x2⟩
    obtain ⟨oid, nid, ps, a7, a8, ao, an, hO, hNs, hR, hP, hL⟩ := aI0
    have hi : i < cells.length := by omega
    have hcm : cellAt cells i ∈ cells := by rw [cellAt_eq hi]; exact List.getElem_mem _
    have hgi : (cells.map eCell)[i]? = some (eCell (cellAt cells i)) := get_map eCell hi
    have fi := hF _ hcm
    obtain ⟨bx, by_⟩ := iB_of fi.at_
    have hf6 := h6 _ hcm
    have hev := evsN_len (s := s) h6 i (by omega)
    have x1 := hO.ne
    have x2 := hO.ne'
    have x3 := hNs.ne
    have x4 := hNs.ne'
    have x5 := out_near hO hNs
    have x6 := near_out hO hNs
    (try ((repeat (revert hN; revert N; apply Pn.out)); refine wk (tw @a9 (tw @a0 (tw @a1 (tw @a2 (tw @a7 (tw @a8 (tw @hk (tw @hgi (tw @eCell.eq_1 @ePoint.eq_1))))))))) ?_; (repeat (refine Pn.mk ?_; intro N hN))))
    refine w_loopF (fun n env st => ∃ k : Nat, n = ((cellAt cells i).g_Fired.length) - k ∧ k ≤ ((cellAt cells i).g_Fired.length) ∧ env 11 = .int .i64 (k : Int) ∧ st.get oid = some ⟨true, 4, (evsN s cells i).map eEvent⟩ ∧ st.get nid = some ⟨true, 2, ps.map ePoint⟩ ∧ (∃ aid, env 10 = .own aid 0 (2 + k) ∧ st.get aid = some ⟨true, 4, (allK (cellAt cells i) k).map eEvent⟩ ∧ AllSite aid)) ((cellAt cells i).g_Fired.length) ⟨0, by omega, by omega, by (try simp only [go_sem, ↓reduceIte, Nat.reduceEqDiff, Nat.reduceAdd, Nat.reduceSub, Nat.reduceLeDiff, reduceCtorEq, a9, a0, a1, a2, a7, a8, ao, an, x1, x2, x3, x4]); try rfl, by (try simp only [go_sem, ↓reduceIte, Nat.reduceEqDiff, Nat.reduceAdd, Nat.reduceSub, Nat.reduceLeDiff, reduceCtorEq, a9, a0, a1, a2, a7, a8, ao, an, x1, x2, x3, x4]); try rfl, by (try simp only [go_sem, ↓reduceIte, Nat.reduceEqDiff, Nat.reduceAdd, Nat.reduceSub, Nat.reduceLeDiff, reduceCtorEq, a9, a0, a1, a2, a7, a8, ao, an, x1, x2, x3, x4]); try rfl, ⟨⟨32006012, st_a.next + 1⟩, sd @Nat.zero_add, by (simp only [go_sem, ↓reduceIte, Nat.reduceEqDiff, Nat.reduceAdd, Nat.reduceSub, Nat.reduceLeDiff, reduceCtorEq]) <;> rfl, .inl rfl⟩⟩ ?_
    rintro n_b env_b st_b ⟨k, rfl, ble, b11, bg0, bg1, bI0⟩ bfr
    have b0 := bfr 0 (by kernel_rfl); have b1 := bfr 1 (by kernel_rfl); have b2 := bfr 2 (by kernel_rfl); have b7 := bfr 7 (by kernel_rfl); have b8 := bfr 8 (by kernel_rfl); have b9 := bfr 9 (by kernel_rfl)
    simp only [go_sem, ↓reduceIte, Nat.reduceEqDiff, Nat.reduceAdd, Nat.reduceSub, Nat.reduceLeDiff, reduceCtorEq, a9, a0, a1, a2, a7, a8, ao, an, x1, x2, x3, x4] at b0 b1 b2 b7 b8 b9
    clear bfr
    by_cases hkb : (k : Int) < ((cellAt cells i).g_Fired.length : Int)
    · have nextb : ∀ {e : Env} {gg : Rows}, (e 11 = .int .i64 (IntKind.i64.wrap ((k : Int) + 1))) → (gg oid = some ⟨true, 4, (evsN s cells i).map eEvent⟩) → (gg nid = some ⟨true, 2, ps.map ePoint⟩) → (∃ aid, e 10 = .own aid 0 (2 + (k + 1)) ∧ gg aid = some ⟨true, 4, (allK (cellAt cells i) (k + 1)).map eEvent⟩ ∧ AllSite aid) → ∃ m0, m0 < ((cellAt cells i).g_Fired.length) - k ∧ ∃ k : Nat, m0 = ((cellAt cells i).g_Fired.length) - k ∧ k ≤ ((cellAt cells i).g_Fired.length) ∧ e 11 = .int .i64 (k : Int) ∧ gg oid = some ⟨true, 4, (evsN s cells i).map eEvent⟩ ∧ gg nid = some ⟨true, 2, ps.map ePoint⟩ ∧ (∃ aid, e 10 = .own aid 0 (2 + k) ∧ gg aid = some ⟨true, 4, (allK (cellAt cells i) k).map eEvent⟩ ∧ AllSite aid) := fun x1 x2 x3 x4 => ⟨_, by omega, k + 1, rfl, by omega, (by rw [x1, wrap_succ2 (by omega)]), x2, x3, x4⟩
      obtain ⟨aid, b10, ba, hA⟩ := bI0
      have x7 := hA.ne
      have x8 := hA.ne'
      have x9 := all_near hA hNs
      have x10 := near_all hA hNs
      have x11 := out_all hO hA
      have x12 := all_out hO hA
      have e1 : 2 + k + 1 ≤ 16777216 := by omega
      have e2 := map_snoc (allK (cellAt cells i) k) ⟨3, (cellAt cells i).g_At, k⟩
      rw [allK_succ] at e2
      have e3 := allK_len (cellAt cells i) k
      simp only [] at e2
      (try ((repeat (revert hN; revert N; apply Pn.out)); refine wk (tw @b11 (tw @bg0 (tw @bg1 (tw @b0 (tw @b1 (tw @b2 (tw @b7 (tw @b8 (tw @b9 (tw @b10 (tw @ba (tw @hkb (tw @hgi (tw @e1 (tw @e2 (tw @e3 (tw @x1 (tw @x2 (tw @x3 (tw @x4 (tw @x7 (tw @x8 (tw @eCell.eq_1 @ePoint.eq_1))))))))))))))))))))))) ?_; (repeat (refine Pn.mk ?_; intro N hN))))
      refine nextb ?_ ?_ ?_ (⟨⟨32010009, st_b.next + 1⟩, by (simp only [go_sem, ↓reduceIte, Nat.reduceEqDiff, Nat.reduceAdd, Nat.reduceSub, Nat.reduceLeDiff, reduceCtorEq]) <;> rfl, sd @e2, .inr rfl⟩)
      all_goals simp only [go_sem, ↓reduceIte, Nat.reduceEqDiff, Nat.reduceAdd, Nat.reduceSub, Nat.reduceLeDiff, reduceCtorEq, b11, bg0, bg1, b0, b1, b2, b7, b8, b9, x1, x2, x3, x4, x5, x6, x7, x8, x9, x10, x11, x12]
    · have hkf : k = (cellAt cells i).g_Fired.length := by omega
      subst hkf
      obtain ⟨aid, b10, ba, hA⟩ := bI0
      rw [← allK_len (cellAt cells i) (cellAt cells i).g_Fired.length] at b10
      have hcan := fun (k : Nat) (hk : k < (allK (cellAt cells i) (cellAt cells i).g_Fired.length).length) => l31CanAll_v s temp cells i hi k hk (hix i hi) hS hF
      have hlenL := allK_len (cellAt cells i) (cellAt cells i).g_Fired.length
      have hcev : midE s cells i (allK (cellAt cells i) (cellAt cells i).g_Fired.length) (allK (cellAt cells i) (cellAt cells i).g_Fired.length).length = evsN s cells (i + 1) := by
        rw [midE, List.take_length]; exact evsN_succ hi
      have hm0 : midE s cells i (allK (cellAt cells i) (cellAt cells i).g_Fired.length) 0 = evsN s cells i := by simp [midE]
      generalize allK (cellAt cells i) (cellAt cells i).g_Fired.length = L at *
      have x7 := hA.ne
      have x8 := hA.ne'
      have x9 := all_near hA hNs
      have x10 := near_all hA hNs
      (try ((repeat (revert hN; revert N; apply Pn.out)); refine wk (tw @b11 (tw @bg0 (tw @bg1 (tw @b0 (tw @b1 (tw @b2 (tw @b7 (tw @b8 (tw @b9 (tw @b10 (tw @ba (tw @hkb (tw @hgi (tw @x1 (tw @x2 (tw @x3 (tw @x4 (tw @x7 (tw @x8 @eCell.eq_1))))))))))))))))))) ?_; (repeat (refine Pn.mk ?_; intro N hN))))
      refine w_loopF (fun n env st => ∃ k : Nat, n = (L.length) - k ∧ k ≤ (L.length) ∧ env 12 = .int .i64 (k : Int) ∧ st.get nid = some ⟨true, 2, ps.map ePoint⟩ ∧ st.get aid = some ⟨true, 4, L.map eEvent⟩ ∧ (∃ oid, env 7 = .own oid 0 (midE s cells i L k).length ∧ st.get oid = some ⟨true, 4, (midE s cells i L k).map eEvent⟩ ∧ OutSite oid)) (L.length) ⟨0, by omega, by omega, by (try simp only [go_sem, ↓reduceIte, Nat.reduceEqDiff, Nat.reduceAdd, Nat.reduceSub, Nat.reduceLeDiff, reduceCtorEq, b11, bg0, bg1, b0, b1, b2, b7, b8, b9, b10, ba, x1, x2, x3, x4, x7, x8]); try rfl, by (try simp only [go_sem, ↓reduceIte, Nat.reduceEqDiff, Nat.reduceAdd, Nat.reduceSub, Nat.reduceLeDiff, reduceCtorEq, b11, bg0, bg1, b0, b1, b2, b7, b8, b9, b10, ba, x1, x2, x3, x4, x7, x8]); try rfl, by (try simp only [go_sem, ↓reduceIte, Nat.reduceEqDiff, Nat.reduceAdd, Nat.reduceSub, Nat.reduceLeDiff, reduceCtorEq, b11, bg0, bg1, b0, b1, b2, b7, b8, b9, b10, ba, x1, x2, x3, x4, x7, x8]); try rfl, ⟨oid, sd (tw @b11 (tw @bg0 (tw @bg1 (tw @b0 (tw @b1 (tw @b2 (tw @b7 (tw @b8 (tw @b9 @hm0))))))))), sd (tw @b11 (tw @bg0 (tw @bg1 (tw @b0 (tw @b1 (tw @b2 (tw @b7 (tw @b8 (tw @b9 @hm0))))))))), hO⟩⟩ ?_
      rintro n_c env_c st_c ⟨k, rfl, cle, c12, cg0, cg1, cI0⟩ cfr
      have c0 := cfr 0 (by kernel_rfl); have c1 := cfr 1 (by kernel_rfl); have c2 := cfr 2 (by kernel_rfl); have c8 := cfr 8 (by kernel_rfl); have c9 := cfr 9 (by kernel_rfl); have c10 := cfr 10 (by kernel_rfl)
      simp only [go_sem, ↓reduceIte, Nat.reduceEqDiff, Nat.reduceAdd, Nat.reduceSub, Nat.reduceLeDiff, reduceCtorEq, b11, bg0, bg1, b0, b1, b2, b7, b8, b9, b10, ba, x1, x2, x3, x4, x7, x8] at c0 c1 c2 c8 c9 c10
      clear cfr
      clear hm0 x1 x2 x5 x6 hO ao a7
      obtain ⟨oid, c7, co, hO⟩ := cI0
      have x1 := hO.ne
      have x2 := hO.ne'
      have x5 := out_near hO hNs
      have x6 := near_out hO hNs
      have x11 := out_all hO hA
      have x12 := all_out hO hA
      have hml : (midE s cells i L k).length ≤ 16777215 := by
        have h1 : ((L.take k).filter (canB s cells (cellAt cells i))).length ≤ k := Nat.le_trans (List.length_filter_le _ _) (by rw [List.length_take]; omega)
        rw [midE, List.length_append]; omega
      by_cases hkc : (k : Int) < (L.length : Int)
      · have nextc : ∀ {e : Env} {gg : Rows}, (e 12 = .int .i64 (IntKind.i64.wrap ((k : Int) + 1))) → (gg nid = some ⟨true, 2, ps.map ePoint⟩) → (gg aid = some ⟨true, 4, L.map eEvent⟩) → (∃ oid, e 7 = .own oid 0 (midE s cells i L (k + 1)).length ∧ gg oid = some ⟨true, 4, (midE s cells i L (k + 1)).map eEvent⟩ ∧ OutSite oid) → ∃ m0, m0 < (L.length) - k ∧ ∃ k : Nat, m0 = (L.length) - k ∧ k ≤ (L.length) ∧ e 12 = .int .i64 (k : Int) ∧ gg nid = some ⟨true, 2, ps.map ePoint⟩ ∧ gg aid = some ⟨true, 4, L.map eEvent⟩ ∧ (∃ oid, e 7 = .own oid 0 (midE s cells i L k).length ∧ gg oid = some ⟨true, 4, (midE s cells i L k).map eEvent⟩ ∧ OutSite oid) := fun x1 x2 x3 x4 => ⟨_, by omega, k + 1, rfl, by omega, (by rw [x1, wrap_succ2 (by omega)]), x2, x3, x4⟩
        have hkL : k < L.length := by omega
        have hgk : (L.map eEvent)[k]? = some (eEvent (eA L k)) := eA_get hkL
        have hck := hcan k hkL
        cases hcb : canB s cells (cellAt cells i) (eA L k)
        · (repeat (first | ((repeat (revert hN; revert N; apply Pn.out)); refine wk (tw @c12 (tw @cg0 (tw @cg1 (tw @c0 (tw @c1 (tw @c2 (tw @c8 (tw @c9 (tw @c10 (tw @c7 (tw @co (tw @hkc (tw @hgk (tw @hcb (tw @x1 (tw @x2 (tw @x3 (tw @x4 (tw @x7 (tw @x8 (tw @eEvent.eq_1 @eSet.eq_1))))))))))))))))))))) ?_; (repeat (refine Pn.mk ?_; intro N hN))) | ((try apply Or.inl); refine ⟨_, RetS.x (hck) (sd (tw @c12 (tw @cg0 (tw @cg1 (tw @c0 (tw @c1 (tw @c2 (tw @c8 (tw @c9 (tw @c10 (tw @c7 (tw @co (tw @hkc (tw @hgk (tw @hcb (tw @x1 (tw @x2 (tw @x3 (tw @x4 (tw @x7 (tw @x8 (tw @eEvent.eq_1 @eSet.eq_1)))))))))))))))))))))), ?_⟩; refine hN _ _ ?_; clear hN N)))
          refine nextc ?_ ?_ ?_ (⟨oid, sd (tw @c7 (midE_no hkL hcb)), sd (tw @co (midE_no hkL hcb)), hO⟩)
          all_goals simp only [go_sem, ↓reduceIte, Nat.reduceEqDiff, Nat.reduceAdd, Nat.reduceSub, Nat.reduceLeDiff, reduceCtorEq, c12, cg0, cg1, c0, c1, c2, c8, c9, c10, eSet]
        · have e2 := map_snoc (midE s cells i L k) (eA L k)
          rw [← midE_yes hkL hcb] at e2
          have e3 : (midE s cells i L (k + 1)).length = (midE s cells i L k).length + 1 := by rw [midE_yes hkL hcb]; simp
          (repeat (first | ((repeat (revert hN; revert N; apply Pn.out)); refine wk (tw @c12 (tw @cg0 (tw @cg1 (tw @c0 (tw @c1 (tw @c2 (tw @c8 (tw @c9 (tw @c10 (tw @c7 (tw @co (tw @hkc (tw @hgk (tw @hcb (tw @e2 (tw @hml (tw @x1 (tw @x2 (tw @x3 (tw @x4 (tw @x7 (tw @x8 (tw @eEvent.eq_1 @eSet.eq_1))))))))))))))))))))))) ?_; (repeat (refine Pn.mk ?_; intro N hN))) | ((try apply Or.inl); refine ⟨_, RetS.x (hck) (sd (tw @c12 (tw @cg0 (tw @cg1 (tw @c0 (tw @c1 (tw @c2 (tw @c8 (tw @c9 (tw @c10 (tw @c7 (tw @co (tw @hkc (tw @hgk (tw @hcb (tw @e2 (tw @hml (tw @x1 (tw @x2 (tw @x3 (tw @x4 (tw @x7 (tw @x8 (tw @eEvent.eq_1 @eSet.eq_1)))))))))))))))))))))))), ?_⟩; refine hN _ _ ?_; clear hN N)))
          refine nextc ?_ ?_ ?_ (⟨⟨32015006, st_c.next + 2⟩, sd @e3, sd @e2, .inr (.inl rfl)⟩)
          all_goals simp only [go_sem, ↓reduceIte, Nat.reduceEqDiff, Nat.reduceAdd, Nat.reduceSub, Nat.reduceLeDiff, reduceCtorEq, c12, cg0, cg1, c0, c1, c2, c8, c9, c10, eSet, x1, x2, x3, x4, x5, x6, x7, x8, x9, x10, x11, x12]
      · have hkf : k = L.length := by omega
        subst hkf
        rw [hcev] at c7 co
        (try ((repeat (revert hN; revert N; apply Pn.out)); refine wk (tw @c12 (tw @cg0 (tw @cg1 (tw @c0 (tw @c1 (tw @c2 (tw @c8 (tw @c9 (tw @c10 (tw @c7 (tw @co (tw @hkc (tw @x1 (tw @x2 (tw @x3 @x4))))))))))))))) ?_; (repeat (refine Pn.mk ?_; intro N hN))))
        refine w_loopF (fun n env st => ∃ m : Nat, n = (4) - m ∧ m ≤ (4) ∧ env 13 = .int .i64 (m : Int) ∧ st.get oid = some ⟨true, 4, (evsN s cells (i + 1)).map eEvent⟩ ∧ (∃ nid ps, env 8 = .own nid 0 ps.length ∧ st.get nid = some ⟨true, 2, ps.map ePoint⟩ ∧ NearSite nid ∧ Ris ps ∧ (∀ x, x ∈ ps ↔ nearN cells i m x) ∧ ps.length ≤ 4 * i + m)) (4) ⟨0, by omega, by omega, by (try simp only [go_sem, ↓reduceIte, Nat.reduceEqDiff, Nat.reduceAdd, Nat.reduceSub, Nat.reduceLeDiff, reduceCtorEq, c12, cg0, cg1, c0, c1, c2, c8, c9, c10, c7, co]); try rfl, by (try simp only [go_sem, ↓reduceIte, Nat.reduceEqDiff, Nat.reduceAdd, Nat.reduceSub, Nat.reduceLeDiff, reduceCtorEq, c12, cg0, cg1, c0, c1, c2, c8, c9, c10, c7, co]); try rfl, ⟨nid, ps, sd (tw @c12 (tw @cg0 (tw @cg1 (tw @c0 (tw @c1 (tw @c2 (tw @c8 (tw @c9 @c10)))))))), sd (tw @c12 (tw @cg0 (tw @cg1 (tw @c0 (tw @c1 (tw @c2 (tw @c8 (tw @c9 @c10)))))))), hNs, hR, hP, by omega⟩⟩ ?_
        rintro n_d env_d st_d ⟨m, rfl, dle, d13, dg0, dI0⟩ dfr
        have d0 := dfr 0 (by kernel_rfl); have d1 := dfr 1 (by kernel_rfl); have d2 := dfr 2 (by kernel_rfl); have d7 := dfr 7 (by kernel_rfl); have d9 := dfr 9 (by kernel_rfl)
        simp only [go_sem, ↓reduceIte, Nat.reduceEqDiff, Nat.reduceAdd, Nat.reduceSub, Nat.reduceLeDiff, reduceCtorEq, c12, cg0, cg1, c0, c1, c2, c8, c9, c10, c7, co] at d0 d1 d2 d7 d9
        clear dfr
        clear hR hP hL x3 x4 x5 x6 hNs an a8 x7 x8 x9 x10 x11 x12 hA ba
        obtain ⟨nid, ps, d8, dn, hNs, hR, hP, hL⟩ := dI0
        have x3 := hNs.ne
        have x4 := hNs.ne'
        have x5 := out_near hO hNs
        have x6 := near_out hO hNs
        by_cases hd : (m : Int) < 4
        · have nextd : ∀ {e : Env} {gg : Rows}, (e 13 = .int .i64 (IntKind.i64.wrap ((m : Int) + 1))) → (gg oid = some ⟨true, 4, (evsN s cells (i + 1)).map eEvent⟩) → (∃ nid ps, e 8 = .own nid 0 ps.length ∧ gg nid = some ⟨true, 2, ps.map ePoint⟩ ∧ NearSite nid ∧ Ris ps ∧ (∀ x, x ∈ ps ↔ nearN cells i (m + 1) x) ∧ ps.length ≤ 4 * i + (m + 1)) → ∃ m0, m0 < (4) - m ∧ ∃ m : Nat, m0 = (4) - m ∧ m ≤ (4) ∧ e 13 = .int .i64 (m : Int) ∧ gg oid = some ⟨true, 4, (evsN s cells (i + 1)).map eEvent⟩ ∧ (∃ nid ps, e 8 = .own nid 0 ps.length ∧ gg nid = some ⟨true, 2, ps.map ePoint⟩ ∧ NearSite nid ∧ Ris ps ∧ (∀ x, x ∈ ps ↔ nearN cells i m x) ∧ ps.length ≤ 4 * i + m) := fun x1 x2 x3 => ⟨_, by omega, m + 1, rfl, by omega, (by rw [x1, wrap_succ2 (by omega)]), x2, x3⟩
          have hst := l01Step_v (cellAt cells i).g_At (m : Int) bx by_
          have hyes := fun x => nearN_yes (cells := cells) (i := i) (m := m) (x := x)
          have hno := fun x => nearN_no (cells := cells) (i := i) (m := m) (x := x)
          generalize stepP (cellAt cells i).g_At (m : Int) = q at *
          cases hpt : ptB q
          · (repeat (first | ((repeat (revert hN; revert N; apply Pn.out)); refine wk (tw @d13 (tw @dg0 (tw @d0 (tw @d1 (tw @d2 (tw @d7 (tw @d9 (tw @d8 (tw @dn (tw @hd (tw @hgi (tw @hpt (tw @x1 (tw @x2 (tw @x3 (tw @x4 (tw @eCell.eq_1 @ePoint.eq_1))))))))))))))))) ?_; (repeat (refine Pn.mk ?_; intro N hN))) | ((try apply Or.inl); refine ⟨_, Ret.x (hst) _, ?_⟩; refine hN _ _ ?_; clear hN N) | ((try apply Or.inl); refine ⟨_, Ret.x (l01Point_v q) _, ?_⟩; refine hN _ _ ?_; clear hN N)))
            refine nextd ?_ ?_ (⟨nid, ps, sd @d8, sd (tw @dn (tw @x3 @x4)), hNs, hR, fun x => by rw [hP, hno x fun hg => by rw [hg.1] at hpt; cases hpt], by omega⟩)
            all_goals simp only [go_sem, ↓reduceIte, Nat.reduceEqDiff, Nat.reduceAdd, Nat.reduceSub, Nat.reduceLeDiff, reduceCtorEq, d13, dg0, d0, d1, d2, d7, d9, x1, x2, x3, x4]
          by_cases hin : idxN cells q < cells.length
          · have hidx : idxI cells q = (idxN cells q : Int) := if_pos hin
            have hnn : ¬ ((idxN cells q : Int) < 0) := by omega
            (repeat (first | ((repeat (revert hN; revert N; apply Pn.out)); refine wk (tw @d13 (tw @dg0 (tw @d0 (tw @d1 (tw @d2 (tw @d7 (tw @d9 (tw @d8 (tw @dn (tw @hd (tw @hgi (tw @hpt (tw @hidx (tw @hnn (tw @x1 (tw @x2 (tw @x3 (tw @x4 (tw @eCell.eq_1 @ePoint.eq_1))))))))))))))))))) ?_; (repeat (refine Pn.mk ?_; intro N hN))) | ((try apply Or.inl); refine ⟨_, Ret.x (hst) _, ?_⟩; refine hN _ _ ?_; clear hN N) | ((try apply Or.inl); refine ⟨_, Ret.x (l01Point_v q) _, ?_⟩; refine hN _ _ ?_; clear hN N) | ((try apply Or.inl); refine ⟨_, RetS.x (l31Index_v cells q) (sd (tw @d13 (tw @dg0 (tw @d0 (tw @d1 (tw @d2 (tw @d7 (tw @d9 (tw @d8 (tw @dn (tw @hd (tw @hgi (tw @hpt (tw @hidx (tw @hnn (tw @x1 (tw @x2 (tw @x3 (tw @x4 (tw @eCell.eq_1 @ePoint.eq_1)))))))))))))))))))), ?_⟩; refine hN _ _ ?_; clear hN N)))
            refine nextd ?_ ?_ (⟨nid, ps, sd @d8, sd (tw @dn (tw @x3 @x4)), hNs, hR, fun x => by rw [hP, hno x fun hg => hg.2 hin], by omega⟩)
            all_goals simp only [go_sem, ↓reduceIte, Nat.reduceEqDiff, Nat.reduceAdd, Nat.reduceSub, Nat.reduceLeDiff, reduceCtorEq, d13, dg0, d0, d1, d2, d7, d9, x1, x2, x3, x4]
          · have hidx : idxI cells q = -1 := if_neg hin
            (repeat (first | ((repeat (revert hN; revert N; apply Pn.out)); refine wk (tw @d13 (tw @dg0 (tw @d0 (tw @d1 (tw @d2 (tw @d7 (tw @d9 (tw @d8 (tw @dn (tw @hd (tw @hgi (tw @hpt (tw @hidx (tw @x1 (tw @x2 (tw @x3 (tw @x4 (tw @eCell.eq_1 @ePoint.eq_1)))))))))))))))))) ?_; (repeat (refine Pn.mk ?_; intro N hN))) | ((try apply Or.inl); refine ⟨_, Ret.x (hst) _, ?_⟩; refine hN _ _ ?_; clear hN N) | ((try apply Or.inl); refine ⟨_, Ret.x (l01Point_v q) _, ?_⟩; refine hN _ _ ?_; clear hN N) | ((try apply Or.inl); refine ⟨_, RetS.x (l31Index_v cells q) (sd (tw @d13 (tw @dg0 (tw @d0 (tw @d1 (tw @d2 (tw @d7 (tw @d9 (tw @d8 (tw @dn (tw @hd (tw @hgi (tw @hpt (tw @hidx (tw @x1 (tw @x2 (tw @x3 (tw @x4 (tw @eCell.eq_1 @ePoint.eq_1))))))))))))))))))), ?_⟩; refine hN _ _ ?_; clear hN N)))
            refine .inr ?_
            refine Call_mono _ _ _ _ _ (fun r σ' hq => ?_) (l08PutPoint_v ps q hR (by omega) _ nid (sd (tw @dn (tw @x3 @x4))) (fun v => by simp [x3]) (fun v => by simp [x3]))
            obtain ⟨qs, nid', rfl, hqg, hqR, hqm, hql, hqs, _, hfr⟩ := hq
            have hNs' : NearSite nid' := by
              rcases hqs with h | h
              · rw [h]; exact hNs
              · exact .inr h
            have f2 := hfr oid (by rcases hO with h | h | h <;> rw [h] <;> decide) (fun h => by rw [x5] at h; exact h)
            simp only [go_sem, ↓reduceIte, Nat.reduceEqDiff, Nat.reduceAdd, Nat.reduceSub, Nat.reduceLeDiff, reduceCtorEq, d13, dg0, d0, d1, d2, d7, d9, x1, x2, x3, x4] at f2
            refine hN _ _ ?_
            clear hN N
            (try ((repeat (revert hN; revert N; apply Pn.out)); refine wk (tw @d13 (tw @dg0 (tw @d0 (tw @d1 (tw @d2 (tw @d7 @d9)))))) ?_; (repeat (refine Pn.mk ?_; intro N hN))))
            refine nextd ?_ ?_ (⟨nid', qs, sd @Nat.zero_add, hqg, hNs', hqR, fun x => by rw [hqm, hP, hyes x ⟨hpt, hin⟩], by omega⟩)
            all_goals simp only [go_sem, ↓reduceIte, Nat.reduceEqDiff, Nat.reduceAdd, Nat.reduceSub, Nat.reduceLeDiff, reduceCtorEq, d13, dg0, d0, d1, d2, d7, d9, f2]
        · have hm4 : m = 4 := by omega
          subst hm4
          (try ((repeat (revert hN; revert N; apply Pn.out)); refine wk (tw @d13 (tw @dg0 (tw @d0 (tw @d1 (tw @d2 (tw @d7 (tw @d9 @hd))))))) ?_; (repeat (refine Pn.mk ?_; intro N hN))))
          exact nexta (sd (tw @d13 (tw @dg0 (tw @d0 (tw @d1 (tw @d2 (tw @d7 @d9))))))) (⟨oid, nid, ps, sd (tw @d13 (tw @dg0 (tw @d0 (tw @d1 (tw @d2 (tw @d7 @d9)))))), sd @d8, dg0, dn, hO, hNs, hR, fun x => by rw [hP, nearN_next], by omega⟩)
  · have hkf : i = cells.length := by omega
    subst hkf
    obtain ⟨oid, nid, ps, a7, a8, ao, an, hO, hNs, hR, hP, hL⟩ := aI0
    have x1 := hO.ne
    have x2 := hO.ne'
    have x3 := hNs.ne
    have x4 := hNs.ne'
    (try ((repeat (revert hN; revert N; apply Pn.out)); refine wk (tw @a9 (tw @a0 (tw @a1 (tw @a2 (tw @a7 (tw @a8 @hk)))))) ?_; (repeat (refine Pn.mk ?_; intro N hN))))
    refine w_loopF (fun n env st => ∃ q : Nat, n = (ps.length) - q ∧ q ≤ (ps.length) ∧ env 15 = .int .i64 (q : Int) ∧ st.get nid = some ⟨true, 2, ps.map ePoint⟩ ∧ (∃ oid, env 7 = .own oid 0 (evsN s cells cells.length ++ attsN s temp cells ps q).length ∧ st.get oid = some ⟨true, 4, (evsN s cells cells.length ++ attsN s temp cells ps q).map eEvent⟩ ∧ OutSite oid)) (ps.length) ⟨0, by omega, by omega, by (try simp only [go_sem, ↓reduceIte, Nat.reduceEqDiff, Nat.reduceAdd, Nat.reduceSub, Nat.reduceLeDiff, reduceCtorEq, a9, a0, a1, a2, a8, an]); try rfl, by (try simp only [go_sem, ↓reduceIte, Nat.reduceEqDiff, Nat.reduceAdd, Nat.reduceSub, Nat.reduceLeDiff, reduceCtorEq, a9, a0, a1, a2, a8, an]); try rfl, ⟨oid, by simp [attsN, a7, upd], by simp [attsN, ao], hO⟩⟩ ?_
    rintro n_e env_e st_e ⟨q, rfl, ele, e15, eg0, eI0⟩ efr
    have e0 := efr 0 (by kernel_rfl); have e1 := efr 1 (by kernel_rfl); have e2 := efr 2 (by kernel_rfl); have e8 := efr 8 (by kernel_rfl)
    simp only [go_sem, ↓reduceIte, Nat.reduceEqDiff, Nat.reduceAdd, Nat.reduceSub, Nat.reduceLeDiff, reduceCtorEq, a9, a0, a1, a2, a8, an] at e0 e1 e2 e8
    clear efr
    clear x1 x2 hO ao a7
    obtain ⟨oid, e7, eo, hO⟩ := eI0
    have x1 := hO.ne
    have x2 := hO.ne'
    by_cases hq : (q : Int) < (ps.length : Int)
    · have nexte : ∀ {e : Env} {gg : Rows}, (e 15 = .int .i64 (IntKind.i64.wrap ((q : Int) + 1))) → (gg nid = some ⟨true, 2, ps.map ePoint⟩) → (∃ oid, e 7 = .own oid 0 (evsN s cells cells.length ++ attsN s temp cells ps (q + 1)).length ∧ gg oid = some ⟨true, 4, (evsN s cells cells.length ++ attsN s temp cells ps (q + 1)).map eEvent⟩ ∧ OutSite oid) → ∃ m0, m0 < (ps.length) - q ∧ ∃ q : Nat, m0 = (ps.length) - q ∧ q ≤ (ps.length) ∧ e 15 = .int .i64 (q : Int) ∧ gg nid = some ⟨true, 2, ps.map ePoint⟩ ∧ (∃ oid, e 7 = .own oid 0 (evsN s cells cells.length ++ attsN s temp cells ps q).length ∧ gg oid = some ⟨true, 4, (evsN s cells cells.length ++ attsN s temp cells ps q).map eEvent⟩ ∧ OutSite oid) := fun x1 x2 x3 => ⟨_, by omega, q + 1, rfl, by omega, (by rw [x1, wrap_succ2 (by omega)]), x2, x3⟩
      have hqn : q < ps.length := by omega
      have hgq : (ps.map ePoint)[q]? = some (ePoint (pAt ps q)) := pAt_get hqn
      have hpm : pAt ps q ∈ ps := by rw [pAt_eq hqn]; exact List.getElem_mem _
      obtain ⟨hg1, hg2⟩ := ((hP _).1 hpm).1
      have hsucc := attsN_succ (s := s) (temp := temp) (cells := cells) hqn
      have hE0 : evsN s cells cells.length ++ attsN s temp cells ps q = endE s temp cells ps q 0 := by simp [endE, attN]
      have hE1 : endE s temp cells ps q s.g_Tiles.length = evsN s cells cells.length ++ attsN s temp cells ps (q + 1) := by rw [endE, List.append_assoc, hsucc]
      rw [hE0] at e7 eo
      (try ((repeat (revert hN; revert N; apply Pn.out)); refine wk (tw @e15 (tw @eg0 (tw @e0 (tw @e1 (tw @e2 (tw @e8 (tw @e7 @hq))))))) ?_; (repeat (refine Pn.mk ?_; intro N hN))))
      refine w_loopF (fun n env st => ∃ k : Nat, n = (s.g_Tiles.length) - k ∧ k ≤ (s.g_Tiles.length) ∧ env 16 = .int .i64 (k : Int) ∧ st.get nid = some ⟨true, 2, ps.map ePoint⟩ ∧ (∃ oid, env 7 = .own oid 0 (endE s temp cells ps q k).length ∧ st.get oid = some ⟨true, 4, (endE s temp cells ps q k).map eEvent⟩ ∧ OutSite oid)) (s.g_Tiles.length) ⟨0, by omega, by omega, by (try simp only [go_sem, ↓reduceIte, Nat.reduceEqDiff, Nat.reduceAdd, Nat.reduceSub, Nat.reduceLeDiff, reduceCtorEq, e15, eg0, e0, e1, e2, e8]); try rfl, by (try simp only [go_sem, ↓reduceIte, Nat.reduceEqDiff, Nat.reduceAdd, Nat.reduceSub, Nat.reduceLeDiff, reduceCtorEq, e15, eg0, e0, e1, e2, e8]); try rfl, ⟨oid, sd @e7, sd @eo, hO⟩⟩ ?_
      rintro n_f env_f st_f ⟨k, rfl, fle, f16, fg0, fI0⟩ ffr
      have f0 := ffr 0 (by kernel_rfl); have f1 := ffr 1 (by kernel_rfl); have f2 := ffr 2 (by kernel_rfl); have f8 := ffr 8 (by kernel_rfl); have f15 := ffr 15 (by kernel_rfl)
      simp only [go_sem, ↓reduceIte, Nat.reduceEqDiff, Nat.reduceAdd, Nat.reduceSub, Nat.reduceLeDiff, reduceCtorEq, e15, eg0, e0, e1, e2, e8] at f0 f1 f2 f8 f15
      clear ffr
      clear x1 x2 hO eo e7
      obtain ⟨oid, f7, fo, hO⟩ := fI0
      have x1 := hO.ne
      have x2 := hO.ne'
      have x5 := out_near hO hNs
      have x6 := near_out hO hNs
      by_cases hkf : (k : Int) < (s.g_Tiles.length : Int)
      · have nextf : ∀ {e : Env} {gg : Rows}, (e 16 = .int .i64 (IntKind.i64.wrap ((k : Int) + 1))) → (gg nid = some ⟨true, 2, ps.map ePoint⟩) → (∃ oid, e 7 = .own oid 0 (endE s temp cells ps q (k + 1)).length ∧ gg oid = some ⟨true, 4, (endE s temp cells ps q (k + 1)).map eEvent⟩ ∧ OutSite oid) → ∃ m0, m0 < (s.g_Tiles.length) - k ∧ ∃ k : Nat, m0 = (s.g_Tiles.length) - k ∧ k ≤ (s.g_Tiles.length) ∧ e 16 = .int .i64 (k : Int) ∧ gg nid = some ⟨true, 2, ps.map ePoint⟩ ∧ (∃ oid, e 7 = .own oid 0 (endE s temp cells ps q k).length ∧ gg oid = some ⟨true, 4, (endE s temp cells ps q k).map eEvent⟩ ∧ OutSite oid) := fun x1 x2 x3 => ⟨_, by omega, k + 1, rfl, by omega, (by rw [x1, wrap_succ2 (by omega)]), x2, x3⟩
        have hkn : k < s.g_Tiles.length := by omega
        have hatt := l31CanAtt_v s temp cells (pAt ps q) k hkn hg1 hg2 hS hSS hF
        rw [show decide (temp ≤ strN s cells (pAt ps q) (tileAt s k) 4) = attB s temp cells (pAt ps q) k from rfl] at hatt
        have hml : (endE s temp cells ps q k).length ≤ 16777215 := by
          have h1 := evsN_len (s := s) h6 cells.length (Nat.le_refl _)
          have h2 := attsN_len (s := s) (temp := temp) (cells := cells) (ps := ps) q (by omega)
          have h3 := attN_len s temp cells (pAt ps q) k
          have h4 : q * s.g_Tiles.length ≤ 320 * 160 := Nat.mul_le_mul (by omega) h160
          rw [endE, List.length_append, List.length_append]; omega
        cases hcb : attB s temp cells (pAt ps q) k
        · (repeat (first | ((repeat (revert hN; revert N; apply Pn.out)); refine wk (tw @f16 (tw @fg0 (tw @f0 (tw @f1 (tw @f2 (tw @f8 (tw @f15 (tw @f7 (tw @hkf (tw @hq (tw @hgq (tw @hcb (tw @x1 (tw @x2 (tw @x3 (tw @x4 (tw @eEvent.eq_1 (tw @eSet.eq_1 @ePoint.eq_1)))))))))))))))))) ?_; (repeat (refine Pn.mk ?_; intro N hN))) | ((try apply Or.inl); refine ⟨_, RetS.x (hatt) (sd (tw @f16 (tw @fg0 (tw @f0 (tw @f1 (tw @f2 (tw @f8 (tw @f15 (tw @f7 (tw @hkf (tw @hq (tw @hgq (tw @hcb (tw @x1 (tw @x2 (tw @x3 (tw @x4 (tw @eEvent.eq_1 (tw @eSet.eq_1 @ePoint.eq_1))))))))))))))))))), ?_⟩; refine hN _ _ ?_; clear hN N)))
          refine nextf ?_ ?_ (⟨oid, sd (tw @f7 (endE_no hcb)), sd (tw @fo (tw (endE_no hcb) (tw @x1 @x2))), hO⟩)
          all_goals simp only [go_sem, ↓reduceIte, Nat.reduceEqDiff, Nat.reduceAdd, Nat.reduceSub, Nat.reduceLeDiff, reduceCtorEq, f16, fg0, f0, f1, f2, f8, f15, eSet, x3, x4]
        · have e2 := map_snoc (endE s temp cells ps q k) ⟨1, pAt ps q, k⟩
          rw [← endE_yes hcb] at e2
          simp only [] at e2
          have e3 : (endE s temp cells ps q (k + 1)).length = (endE s temp cells ps q k).length + 1 := by rw [endE_yes hcb]; simp
          (repeat (first | ((repeat (revert hN; revert N; apply Pn.out)); refine wk (tw @f16 (tw @fg0 (tw @f0 (tw @f1 (tw @f2 (tw @f8 (tw @f15 (tw @f7 (tw @fo (tw @hkf (tw @hq (tw @hgq (tw @hcb (tw @e2 (tw @hml (tw @x1 (tw @x2 (tw @x3 (tw @x4 (tw @eEvent.eq_1 (tw @eSet.eq_1 @ePoint.eq_1))))))))))))))))))))) ?_; (repeat (refine Pn.mk ?_; intro N hN))) | ((try apply Or.inl); refine ⟨_, RetS.x (hatt) (sd (tw @f16 (tw @fg0 (tw @f0 (tw @f1 (tw @f2 (tw @f8 (tw @f15 (tw @f7 (tw @fo (tw @hkf (tw @hq (tw @hgq (tw @hcb (tw @e2 (tw @hml (tw @x1 (tw @x2 (tw @x3 (tw @x4 (tw @eEvent.eq_1 (tw @eSet.eq_1 @ePoint.eq_1)))))))))))))))))))))), ?_⟩; refine hN _ _ ?_; clear hN N)))
          refine nextf ?_ ?_ (⟨⟨32030003, st_f.next + 3⟩, sd @e3, sd @e2, .inr (.inr rfl)⟩)
          all_goals simp only [go_sem, ↓reduceIte, Nat.reduceEqDiff, Nat.reduceAdd, Nat.reduceSub, Nat.reduceLeDiff, reduceCtorEq, f16, fg0, f0, f1, f2, f8, f15, eSet, x1, x2, x3, x4, x5, x6]
      · have hkt : k = s.g_Tiles.length := by omega
        subst hkt
        rw [hE1] at f7 fo
        (try ((repeat (revert hN; revert N; apply Pn.out)); refine wk (tw @f16 (tw @fg0 (tw @f0 (tw @f1 (tw @f2 (tw @f8 (tw @f15 (tw @hkf @eSet.eq_1)))))))) ?_; (repeat (refine Pn.mk ?_; intro N hN))))
        refine nexte ?_ ?_ (⟨oid, sd @f7, fo, hO⟩)
        all_goals simp only [go_sem, ↓reduceIte, Nat.reduceEqDiff, Nat.reduceAdd, Nat.reduceSub, Nat.reduceLeDiff, reduceCtorEq, f16, fg0, f0, f1, f2, f8, f15]
    · have hqf : q = ps.length := by omega
      subst hqf
      (try ((repeat (revert hN; revert N; apply Pn.out)); refine wk (tw @e15 (tw @eg0 (tw @e0 (tw @e1 (tw @e2 (tw @e8 (tw @e7 @hq))))))) ?_; (repeat (refine Pn.mk ?_; intro N hN))))
      have hps : ps = ps0 := Ris.ext hR hR0 fun x => by rw [hP, hP0]
      subst hps
      exact ret1S (.inl rfl) (r0 := .own oid 0 (eventsL s temp cells ps).length) (by simp only [go_sem, ↓reduceIte, Nat.reduceEqDiff, Nat.reduceAdd, Nat.reduceSub, Nat.reduceLeDiff, reduceCtorEq, e15, eg0, e0, e1, e2, e8, e7, eventsL]) (fzS_own_map eo rfl fun x => by simp [eEvent, fzSRow_cons, fzSRow_nil, fzS_int])

end Go.Proofs.YtpbniieiinhliaaGreat.V

namespace Go.Proofs.YtpbniieiinhliaaGreat.V
open Go.RowKit

def canE (s : D_SignalSet) (temp : Int) (cells : List D_SignalCell) (e : D_SignalEvent) : Bool :=
  if e.g_Kind = 1 then !decide (idxN cells e.g_At < cells.length) && (ptB e.g_At && (inB e.g_Num 0 ((s.g_Tiles.length : Int) - 1) && decide (temp ≤ strN s cells e.g_At (tileAt s e.g_Num) 4)))
  else if e.g_Kind = 2 then decide (idxN cells e.g_At < cells.length) && ((decide (e.g_Num = 0) || decide (e.g_Num = 1)) && bindB s cells (cellAt cells (idxN cells e.g_At)) e.g_Num)
  else if e.g_Kind = 3 then decide (idxN cells e.g_At < cells.length) && (inB e.g_Num 0 (((cellAt cells (idxN cells e.g_At)).g_Fired.length : Int) - 1) && fireB s (cellAt cells (idxN cells e.g_At)) e.g_Num.toNat)
  else false

theorem idx_at {cells : List D_SignalCell} {p : D_Point} (h : idxN cells p < cells.length) : (cellAt cells (idxN cells p)).g_At = p := by
  rw [cellAt_eq h]
  have := List.findIdx_getElem (xs := cells) (p := fun c : D_SignalCell => decide (c.g_At = p)) (w := h)
  exact of_decide_eq_true this
theorem idx_lt {cells : List D_SignalCell} {j : Nat} (h : j < cells.length) : idxN cells (cellAt cells j).g_At < cells.length := by
  rw [idxN, List.findIdx_lt_length]
  exact ⟨cells[j], List.getElem_mem h, by rw [cellAt_eq h]; simp⟩
theorem step_opp (p : D_Point) (k : Nat) (hk : k < 4) : stepP (stepP p k) (oppI k) = p := by
  obtain rfl | rfl | rfl | rfl : k = 0 ∨ k = 1 ∨ k = 2 ∨ k = 3 := by omega
  all_goals simp [stepP, oppI, inB]
theorem strN_pos {s : D_SignalSet} {cells : List D_SignalCell} {p : D_Point} {t : D_SignalTile} : ∀ m : Nat, 0 < strN s cells p t m → ∃ k : Nat, k < m ∧ gripB s cells p t k = true
  | 0, h => absurd h (by simp [strN])
  | m + 1, h => by
    rw [strN] at h
    split at h
    · rename_i hg; exact ⟨m, by omega, hg⟩
    · obtain ⟨k, hk, hg⟩ := strN_pos m h
      exact ⟨k, by omega, hg⟩
theorem att_near {s : D_SignalSet} {temp : Int} {cells : List D_SignalCell} {p : D_Point} {t : D_SignalTile} (ht : 1 ≤ temp) (h : temp ≤ strN s cells p t 4) (hp : ptB p = true) (hi : ¬ idxN cells p < cells.length) : nearN cells cells.length 0 p := by
  obtain ⟨k, hk, hg⟩ := strN_pos (s := s) (cells := cells) (p := p) (t := t) 4 (by omega)
  simp only [gripB, Bool.and_eq_true, decide_eq_true_eq] at hg
  refine ⟨⟨hp, hi⟩, .inl ⟨idxN cells (stepP p k), (oppI k).toNat, hg.1, ?_, ?_⟩⟩
  · obtain rfl | rfl | rfl | rfl : k = 0 ∨ k = 1 ∨ k = 2 ∨ k = 3 := by omega
    all_goals simp [oppI, inB]
  · rw [idx_at hg.1]
    have : (((oppI k).toNat : Nat) : Int) = oppI k := by
      obtain rfl | rfl | rfl | rfl : k = 0 ∨ k = 1 ∨ k = 2 ∨ k = 3 := by omega
      all_goals simp [oppI, inB]
    rw [this]
    exact step_opp p k hk

theorem mem_cellEvs {s : D_SignalSet} {cells : List D_SignalCell} {c : D_SignalCell} {e : D_SignalEvent} : e ∈ cellEvs s cells c ↔ e.g_At = c.g_At ∧ ((e.g_Kind = 2 ∧ (e.g_Num = 0 ∨ e.g_Num = 1) ∧ bindB s cells c e.g_Num = true) ∨ (e.g_Kind = 3 ∧ 0 ≤ e.g_Num ∧ e.g_Num < c.g_Fired.length ∧ fireB s c e.g_Num.toNat = true)) := by
  obtain ⟨kd, p, m⟩ := e
  simp only [cellEvs, List.mem_filter, allK, List.mem_append, List.mem_map, List.mem_range, List.mem_cons, List.not_mem_nil, or_false, D_SignalEvent.mk.injEq]
  constructor
  · rintro ⟨(⟨rfl, rfl, rfl⟩ | ⟨rfl, rfl, rfl⟩) | ⟨k, hk, rfl, rfl, rfl⟩, h⟩
    · exact ⟨rfl, .inl ⟨rfl, .inl rfl, by simpa [canB] using h⟩⟩
    · exact ⟨rfl, .inl ⟨rfl, .inr rfl, by simpa [canB] using h⟩⟩
    · exact ⟨rfl, .inr ⟨rfl, by omega, by omega, by simpa [canB] using h⟩⟩
  · rintro ⟨rfl, (⟨rfl, h1, h2⟩ | ⟨rfl, h0, h1, h2⟩)⟩
    · refine ⟨.inl ?_, by simpa [canB] using h2⟩
      rcases h1 with rfl | rfl
      · exact .inl ⟨rfl, rfl, rfl⟩
      · exact .inr ⟨rfl, rfl, rfl⟩
    · exact ⟨.inr ⟨m.toNat, by omega, rfl, rfl, by omega⟩, by simpa [canB] using h2⟩

theorem mem_events {s : D_SignalSet} {temp : Int} {cells : List D_SignalCell} {ps : List D_Point} {e : D_SignalEvent} (hok : CellsOk s cells) (ht : 1 ≤ temp) (hP : ∀ x, x ∈ ps ↔ nearN cells cells.length 0 x) : e ∈ eventsL s temp cells ps ↔ canE s temp cells e = true := by
  rw [eventsL, List.mem_append]
  have h1 : e ∈ evsN s cells cells.length ↔ ∃ j, j < cells.length ∧ e ∈ cellEvs s cells (cellAt cells j) := by
    rw [evsN, List.take_length, List.mem_flatMap]
    constructor
    · rintro ⟨c, hc, he⟩
      obtain ⟨j, hj, rfl⟩ := List.getElem_of_mem hc
      exact ⟨j, hj, by rw [cellAt_eq hj]; exact he⟩
    · rintro ⟨j, hj, he⟩
      exact ⟨cells[j], List.getElem_mem hj, by rw [← cellAt_eq hj]; exact he⟩
  have h2 : e ∈ attsN s temp cells ps ps.length ↔ ∃ k : Nat, e.g_Kind = 1 ∧ e.g_At ∈ ps ∧ k < s.g_Tiles.length ∧ e.g_Num = k ∧ attB s temp cells e.g_At k = true := by
    rw [attsN, List.take_length, List.mem_flatMap]
    constructor
    · rintro ⟨p, hp, he⟩
      simp only [attN, List.mem_map, List.mem_filter, List.mem_range] at he
      obtain ⟨k, ⟨hk, ha⟩, rfl⟩ := he
      exact ⟨k, rfl, hp, hk, rfl, ha⟩
    · rintro ⟨k, hk1, hp, hk, hn, ha⟩
      refine ⟨e.g_At, hp, ?_⟩
      simp only [attN, List.mem_map, List.mem_filter, List.mem_range]
      refine ⟨k, ⟨hk, ha⟩, ?_⟩
      obtain ⟨kd, p, m⟩ := e
      simp at hk1 hn ⊢
      exact ⟨hk1.symm, hn.symm⟩
  rw [h1, h2]
  constructor
  · rintro (⟨j, hj, he⟩ | ⟨k, hk1, hp, hk, hn, ha⟩)
    · obtain ⟨hat, h | h⟩ := mem_cellEvs.1 he
      · obtain ⟨hk, hd, hb⟩ := h
        have hix : idxN cells e.g_At = j := by rw [hat]; exact hok.idx j hj
        rw [canE, if_neg (by omega), if_pos hk, hix]
        simp only [Bool.and_eq_true, Bool.or_eq_true, decide_eq_true_eq]
        exact ⟨hj, hd, hb⟩
      · obtain ⟨hk, h0, h1, hb⟩ := h
        have hix : idxN cells e.g_At = j := by rw [hat]; exact hok.idx j hj
        rw [canE, if_neg (by omega), if_neg (by omega), if_pos hk, hix]
        simp only [Bool.and_eq_true, decide_eq_true_eq]
        exact ⟨hj, inB_of (by omega), hb⟩
    · have hg := ((hP _).1 hp).1
      rw [canE, if_pos hk1]
      simp only [Bool.and_eq_true, Bool.not_eq_true', decide_eq_false_iff_not, decide_eq_true_eq]
      refine ⟨hg.2, hg.1, inB_of (by omega), ?_⟩
      rw [hn]
      simpa [attB] using ha
  · intro h
    rw [canE] at h
    split at h
    · rename_i hk
      simp only [Bool.and_eq_true, Bool.not_eq_true', decide_eq_false_iff_not, decide_eq_true_eq] at h
      obtain ⟨h3, h4, h5, h6⟩ := h
      have := inB_true h5
      have hkk : ((e.g_Num.toNat : Nat) : Int) = e.g_Num := by omega
      exact .inr ⟨e.g_Num.toNat, hk, (hP _).2 (att_near ht h6 h4 h3), by omega, hkk.symm, by simp only [attB, hkk, decide_eq_true_eq]; exact h6⟩
    · split at h
      · rename_i _ hk
        simp only [Bool.and_eq_true, Bool.or_eq_true, decide_eq_true_eq] at h
        exact .inl ⟨_, h.1, mem_cellEvs.2 ⟨(idx_at h.1).symm, .inl ⟨hk, h.2.1, h.2.2⟩⟩⟩
      · split at h
        · rename_i _ _ hk
          simp only [Bool.and_eq_true, decide_eq_true_eq] at h
          have := inB_true h.2.1
          exact .inl ⟨_, h.1, mem_cellEvs.2 ⟨(idx_at h.1).symm, .inr ⟨hk, by omega, by omega, h.2.2⟩⟩⟩
        · cases h

end Go.Proofs.YtpbniieiinhliaaGreat.V

namespace Go.Proofs.YtpbniieiinhliaaGreat.V
open Go.RowKit

def bornC (s : D_SignalSet) (p : D_Point) (k : Int) : D_SignalCell := ⟨p, k, (tileAt s k).g_On, List.replicate 4 false, List.replicate (tileAt s k).g_Fires.length false⟩
/-- The first cell behind a point. -/
def putPos (cells : List D_SignalCell) (p : D_Point) : Nat := cells.findIdx fun c => ltB p c.g_At
def putC (cells : List D_SignalCell) (p : D_Point) (c : D_SignalCell) : List D_SignalCell := cells.take (putPos cells p) ++ c :: cells.drop (putPos cells p)
def fireTo (s : D_SignalSet) (c : D_SignalCell) (m : Int) : Int := (fireAt (tileAt s c.g_Tile) m.toNat).g_To
def bindC (c : D_SignalCell) (d : Int) : D_SignalCell := { c with g_Bound := c.g_Bound.set d.toNat true }
def fireC (s : D_SignalSet) (c : D_SignalCell) (m : Int) : D_SignalCell := { c with g_Fired := c.g_Fired.set m.toNat true, g_On := c.g_On.set (fireTo s c m).toNat true }
def nextI (cells : List D_SignalCell) (e : D_SignalEvent) : Nat := idxN cells (stepP e.g_At e.g_Num)
def bindL (cells : List D_SignalCell) (e : D_SignalEvent) : List D_SignalCell :=
  (cells.set (idxN cells e.g_At) (bindC (cellAt cells (idxN cells e.g_At)) e.g_Num)).set (nextI cells e) (bindC (cellAt cells (nextI cells e)) (oppI e.g_Num))
/-- What it comes to, where there is room. -/
def doE (s : D_SignalSet) (cells : List D_SignalCell) (e : D_SignalEvent) : List D_SignalCell :=
  if e.g_Kind = 1 then putC cells e.g_At (bornC s e.g_At e.g_Num)
  else if e.g_Kind = 2 then bindL cells e
  else cells.set (idxN cells e.g_At) (fireC s (cellAt cells (idxN cells e.g_At)) e.g_Num)
def fullE (cells : List D_SignalCell) (e : D_SignalEvent) : Bool := decide (e.g_Kind = 1) && decide (80 ≤ cells.length)

theorem putPos_le (cells : List D_SignalCell) (p : D_Point) : putPos cells p ≤ cells.length := List.findIdx_le_length
theorem putPos_before {cells : List D_SignalCell} {p : D_Point} {j : Nat} (h : j < putPos cells p) : ltB p (cellAt cells j).g_At = false := by
  have hj : j < cells.length := Nat.lt_of_lt_of_le h (putPos_le _ _)
  have := List.not_of_lt_findIdx (p := fun c : D_SignalCell => ltB p c.g_At) h
  rw [cellAt_eq hj]
  simpa using this
theorem putPos_at {cells : List D_SignalCell} {p : D_Point} (h : putPos cells p < cells.length) : ltB p (cellAt cells (putPos cells p)).g_At = true := by
  rw [cellAt_eq h]
  exact List.findIdx_getElem (xs := cells) (p := fun c : D_SignalCell => ltB p c.g_At) (w := h)
theorem putC_len (cells : List D_SignalCell) (p : D_Point) (c : D_SignalCell) : (putC cells p c).length = cells.length + 1 := by
  have := putPos_le cells p
  simp [putC]; omega

theorem cellAt_set {cells : List D_SignalCell} {i j : Nat} {c : D_SignalCell} (hi : i < cells.length) : cellAt (cells.set i c) j = if i = j then c else cellAt cells j := by
  simp only [cellAt, List.getD_eq_getElem?_getD, List.getElem?_set]
  split
  · rename_i h; subst h; simp [hi]
  · rfl

/-- What an event needs. -/
structure Can2 (s : D_SignalSet) (cells : List D_SignalCell) (e : D_SignalEvent) : Prop where
  at_ : idxN cells e.g_At < cells.length
  num : e.g_Num = 0 ∨ e.g_Num = 1
  next : nextI cells e < cells.length
  ne : nextI cells e ≠ idxN cells e.g_At
theorem can2 {s : D_SignalSet} {temp : Int} {cells : List D_SignalCell} {e : D_SignalEvent} (hc : canE s temp cells e = true) (hk : e.g_Kind = 2) : Can2 s cells e := by
  rw [canE, if_neg (by omega), if_pos hk] at hc
  simp only [Bool.and_eq_true, Bool.or_eq_true, decide_eq_true_eq] at hc
  obtain ⟨h1, h2, h3⟩ := hc
  simp only [bindB, Bool.and_eq_true] at h3
  have hm := h3.2
  have hat := idx_at h1
  unfold meetsB at hm
  rw [hat] at hm
  have hn : nextI cells e < cells.length := by
    unfold nextI
    by_cases h : idxN cells (stepP e.g_At e.g_Num) < cells.length
    · exact h
    · rw [dif_neg h] at hm; cases hm
  refine ⟨h1, h2, hn, fun he => ?_⟩
  have h4 := idx_at (cells := cells) (p := stepP e.g_At e.g_Num) hn
  have he' : idxN cells (stepP e.g_At e.g_Num) = idxN cells e.g_At := he
  rw [he', hat] at h4
  have hx := congrArg D_Point.g_X h4
  have hy := congrArg D_Point.g_Y h4
  rcases h2 with h | h <;> rw [h] at hx hy <;> simp [stepP] at hx hy <;> omega
structure Can3 (s : D_SignalSet) (cells : List D_SignalCell) (e : D_SignalEvent) : Prop where
  at_ : idxN cells e.g_At < cells.length
  n0 : 0 ≤ e.g_Num
  n1 : e.g_Num < (cellAt cells (idxN cells e.g_At)).g_Fired.length
theorem can3 {s : D_SignalSet} {temp : Int} {cells : List D_SignalCell} {e : D_SignalEvent} (hc : canE s temp cells e = true) (hk : e.g_Kind = 3) : Can3 s cells e := by
  rw [canE, if_neg (by omega), if_neg (by omega), if_pos hk] at hc
  simp only [Bool.and_eq_true, decide_eq_true_eq] at hc
  have := inB_true hc.2.1
  exact ⟨hc.1, by omega, by omega⟩
structure Can1 (s : D_SignalSet) (cells : List D_SignalCell) (e : D_SignalEvent) : Prop where
  free : ¬ idxN cells e.g_At < cells.length
  pt : ptB e.g_At = true
  n0 : 0 ≤ e.g_Num
  n1 : e.g_Num < s.g_Tiles.length
theorem can1 {s : D_SignalSet} {temp : Int} {cells : List D_SignalCell} {e : D_SignalEvent} (hc : canE s temp cells e = true) (hk : e.g_Kind = 1) : Can1 s cells e := by
  rw [canE, if_pos hk] at hc
  simp only [Bool.and_eq_true, Bool.not_eq_true', decide_eq_false_iff_not, decide_eq_true_eq] at hc
  have := inB_true hc.2.2.1
  exact ⟨hc.1, hc.2.1, by omega, by omega⟩
theorem can_kind {s : D_SignalSet} {temp : Int} {cells : List D_SignalCell} {e : D_SignalEvent} (hc : canE s temp cells e = true) : e.g_Kind = 1 ∨ e.g_Kind = 2 ∨ e.g_Kind = 3 := by
  rw [canE] at hc
  split at hc
  · exact .inl ‹_›
  · split at hc
    · exact .inr (.inl ‹_›)
    · split at hc
      · exact .inr (.inr ‹_›)
      · cases hc

/-- The cells stay right in form. -/
theorem doE_ok {s : D_SignalSet} {temp : Int} {cells : List D_SignalCell} {e : D_SignalEvent} (hok : CellsOk s cells) (hc : canE s temp cells e = true) (hf : fullE cells e = false) : CellsOk s (doE s cells e) := by
  have setOk : ∀ (i : Nat) (c : D_SignalCell) (l : List D_SignalCell), CellsOk s l → i < l.length → c.g_At = (cellAt l i).g_At → FormOk s c → CellsOk s (l.set i c) := fun i c l h hi hat hfm => by
    refine ⟨h.set, by simpa using h.few, fun x hx => ?_, fun a b hab hb => ?_⟩
    · rcases List.mem_or_eq_of_mem_set hx with hx | rfl
      · exact h.form x hx
      · exact hfm
    · have hb' : b < l.length := by simpa using hb
      have key : ∀ j, (cellAt (l.set i c) j).g_At = (cellAt l j).g_At := fun j => by
        rw [cellAt_set hi]
        split
        · rename_i hij; subst hij; exact hat
        · rfl
      rw [key, key]; exact h.ris a b hab hb'
  have mem : ∀ i, i < cells.length → FormOk s (cellAt cells i) := fun i hi => hok.form _ (by rw [cellAt_eq hi]; exact List.getElem_mem hi)
  have bf : ∀ i, i < cells.length → ∀ d, FormOk s (bindC (cellAt cells i) d) := fun i hi d => by
    have f := mem i hi
    exact ⟨f.at_, f.t0, f.t1, f.on, by simp [bindC, f.bound], f.fired⟩
  unfold doE
  split
  · rename_i hk
    have h := can1 hc hk
    have hm := putPos_le cells e.g_At
    have hfew : cells.length < 80 := by
      simp only [fullE, hk, decide_true, Bool.true_and, decide_eq_false_iff_not] at hf; omega
    have htf := hok.set.form _ (tile_mem h.n0 h.n1)
    have hpc : ∀ j, cellAt (putC cells e.g_At (bornC s e.g_At e.g_Num)) j = if j < putPos cells e.g_At then cellAt cells j else if j = putPos cells e.g_At then bornC s e.g_At e.g_Num else cellAt cells (j - 1) := fun j => by
      have hl : (cells.take (putPos cells e.g_At)).length = putPos cells e.g_At := by rw [List.length_take]; omega
      unfold putC cellAt
      simp only [List.getD_eq_getElem?_getD]
      by_cases h1 : j < putPos cells e.g_At
      · rw [if_pos h1, List.getElem?_append_left (by omega), List.getElem?_take_of_lt h1]
      · rw [if_neg h1, List.getElem?_append_right (by omega), hl]
        by_cases h2 : j = putPos cells e.g_At
        · rw [if_pos h2, h2, Nat.sub_self]; rfl
        · rw [if_neg h2, show j - putPos cells e.g_At = (j - 1 - putPos cells e.g_At) + 1 from by omega, List.getElem?_cons_succ, List.getElem?_drop]
          congr 2; omega
    have before : ∀ j, j < putPos cells e.g_At → ltB (cellAt cells j).g_At e.g_At = true := fun j hj => by
      refine ltB_tri (putPos_before hj) fun he => h.free ?_
      rw [he]; exact idx_lt (by omega)
    have after : ∀ j, putPos cells e.g_At ≤ j → j < cells.length → ltB e.g_At (cellAt cells j).g_At = true := fun j hj hjl => by
      have h0 := putPos_at (cells := cells) (p := e.g_At) (by omega)
      by_cases hje : j = putPos cells e.g_At
      · rw [hje]; exact h0
      · exact ltB_trans h0 (hok.ris _ _ (by omega) hjl)
    refine ⟨hok.set, by rw [putC_len]; omega, fun x hx => ?_, fun a b hab hb => ?_⟩
    · rcases List.mem_append.1 hx with hx | hx
      · exact hok.form x (List.mem_of_mem_take hx)
      · rcases List.mem_cons.1 hx with rfl | hx
        · exact ⟨h.pt, h.n0, h.n1, htf.on, by simp [bornC], by simp [bornC]⟩
        · exact hok.form x (List.mem_of_mem_drop hx)
    · rw [putC_len] at hb
      rw [hpc, hpc]
      by_cases a1 : a < putPos cells e.g_At
      · rw [if_pos a1]
        by_cases b1 : b < putPos cells e.g_At
        · rw [if_pos b1]; exact hok.ris a b hab (by omega)
        · rw [if_neg b1]
          by_cases b2 : b = putPos cells e.g_At
          · rw [if_pos b2]; exact before a a1
          · rw [if_neg b2]; exact hok.ris a (b - 1) (by omega) (by omega)
      · rw [if_neg a1, if_neg (show ¬ b < putPos cells e.g_At by omega), if_neg (show ¬ b = putPos cells e.g_At by omega)]
        by_cases a2 : a = putPos cells e.g_At
        · rw [if_pos a2]; exact after (b - 1) (by omega) (by omega)
        · rw [if_neg a2]; exact hok.ris _ _ (by omega) (by omega)
  · split
    · rename_i _ hk
      have h := can2 hc hk
      have ok1 := setOk (idxN cells e.g_At) (bindC (cellAt cells (idxN cells e.g_At)) e.g_Num) cells hok h.at_ rfl (bf _ h.at_ _)
      refine setOk (nextI cells e) _ _ ok1 (by simpa using h.next) ?_ (bf _ h.next _)
      rw [cellAt_set h.at_, if_neg (fun he => h.ne he.symm)]; rfl
    · rename_i h1 h2
      have hk : e.g_Kind = 3 := by rcases can_kind hc with h | h | h <;> omega
      have h := can3 hc hk
      have f := mem _ h.at_
      exact setOk _ _ _ hok h.at_ rfl ⟨f.at_, f.t0, f.t1, by simp [fireC, f.on], f.bound, by simp [fireC, f.fired]⟩

/-- What PlayEvent answers: the cells, and the code. -/
noncomputable def playA (s : D_SignalSet) (temp : Int) (cells : List D_SignalCell) (e : D_SignalEvent) : List D_SignalCell × Int :=
  if askN s temp cells = 0 then (if canE s temp cells e then (if fullE cells e then ([], 4) else (doE s cells e, 0)) else ([], 5)) else ([], askN s temp cells)
theorem ask_ok {s : D_SignalSet} {temp : Int} {cells : List D_SignalCell} (h0 : askN s temp cells = 0) : CellsOk s cells ∧ inB temp 1 16 = true := by
  unfold askN at h0
  split at h0
  · rename_i h
    refine ⟨cellsB_ok h, ?_⟩
    split at h0
    · assumption
    · cases h0
  · cases h0

end Go.Proofs.YtpbniieiinhliaaGreat.V
