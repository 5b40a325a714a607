/- The reference makes a cell, and cells of its own. -/
import Derived.Test.YtpbniieiinhliaaGreatRnH
import Derived.Test.YtpbniieiinhliaaGreatRnK
set_option linter.unusedVariables false
set_option linter.unusedSimpArgs false
namespace Go.Proofs.YtpbniieiinhliaaGreat.V
open Go.RowKit
attribute [local irreducible] wpv wpOps PCx Call
attribute [local go_sem] wantedV vop qop eop vis evO upd envOf K.av boxOf AV.cells AV.cell rowOf rowsOf part ld rowAt setR killR ibin vbin vsh vclear vsbin sbin eq1 eqL xorB vnil vnilS vnilF hiOf loOf vslice vsliceS viaddr vidxS vidxA vlen vnot vneg vconv vconvS vpick vchk vfield vextract vlenS fillV vmk rowsIn putCs vstore vappend seqQ blockQ most AV.undef callW locP locQ List.getD_cons_zero List.getD_cons_succ List.getD_nil List.all_cons List.all_nil Bool.and_true Bool.true_and Bool.and_self Bool.not_true Bool.not_false Option.map_some Option.map_none Option.bind_some Option.bind_none List.length_cons List.length_nil List.take_succ_cons List.take_zero List.take_nil List.drop_succ_cons List.drop_zero List.drop_nil List.head?_cons List.map_cons List.map_nil List.getElem?_cons_zero List.getElem?_cons_succ List.cons_append List.nil_append List.append_nil List.length_map List.set_cons_zero List.set_cons_succ Nat.reduceMul eq_self Int.toNat_natCast Int.natCast_nonneg and_self true_and and_true decide_true decide_false Bool.false_eq_true Nat.zero_add Nat.add_zero List.contains_cons List.contains_nil Bool.or_false Bool.false_or beq_self_eq_true Nat.reduceBEq ne_eq not_true_eq_false not_false_eq_true Id.mk.injEq false_and and_false Nat.reduceLT Int.reduceLE Int.reduceLT Int.reduceToNat Int.reduceNeg Int.reduceAdd Nat.le_refl List.length_append beq_true beq_false Bool.not_eq_eq_eq_not or_false false_or rw_ fzRow_cons fzRow_nil fz_int fz_bool fz_str fz_sl fz_nils fz_agg fz_iptr fz_ptrE fz_fn

set_option maxRecDepth 100000 in
set_option maxHeartbeats 4000000 in
theorem l31New_v (s : D_SignalSet) (p : D_Point) (k : Int) (hk0 : 0 ≤ k) (hk : k < s.g_Tiles.length) (hT : TileForm (tileAt s k)) (h6 : (tileAt s k).g_Fires.length ≤ 6) (σ : Store) (sid : Id) (hv : sid.ver < σ.next) (hs : σ.get sid = some ⟨true, 2, [eSet s]⟩) :
    Call Tryz.prog 86 [.ptr sid 0 0, .agg (ePoint p), .int .i64 k] σ (NewCellK (bornC s p k) σ) := by
  refine CallBM cf86m rfl fun hl => ?_
  try simp only [q]
  clear hl
  have g1 : (s.g_Tiles.map eTile)[k.toNat]? = some (eTile (tileAt s k)) := get_map eTile (toNat_lt hk hk0)
  have g2 : ∀ l : List Bool, (l.map eBool).all (fun c => c.length == 1 && c.all AV.cell) = true := fun l => all_map fun x => ⟨rfl, rfl⟩
  have h4 := hT.on
  have hnc : bornC s p k = ⟨p, k, (tileAt s k).g_On, List.replicate 4 false, List.replicate (tileAt s k).g_Fires.length false⟩ := rfl
  generalize tileAt s k = t at *
  have e2 : t.g_On.length ≤ 16777216 := by omega
  have e5 : (t.g_Fires.length : Int) ≤ ((16777216 : Nat) : Int) := by omega
  (try ((repeat (revert hN; revert N; apply Pn.out)); refine wk (tw @hs (tw (vne hv) (tw @hk0 (tw @g1 (tw @g2 (tw @e2 (tw @e5 (tw @Int.le_refl (tw @eSet.eq_1 (tw @eTile.eq_1 @ePoint.eq_1)))))))))) ?_; (repeat (refine Pn.mk ?_; intro N hN))))
  refine retO (vs := [.agg [.int .i64 p.g_X, .int .i64 p.g_Y, .int .i64 k, .own ⟨86002007, σ.next + 1 + 1⟩ 0 t.g_On.length, .own ⟨86002008, σ.next + 1 + 1⟩ 0 4, .own ⟨86002014, σ.next + 1 + 1⟩ 0 t.g_Fires.length]]) (.inl rfl) (by simp only [vresL, vres1, go_sem, ↓reduceIte, Nat.reduceEqDiff, Nat.reduceAdd, Nat.reduceSub, Nat.reduceLeDiff, reduceCtorEq]) ?_
  rw [hnc]
  refine ⟨_, _, rfl, ⟨_, _, _, _, _, _, rfl, .inl ⟨_, rfl, sd @Nat.zero_add, rfl⟩, .inl ⟨_, rfl, sd @rep_false, rfl⟩, .inl ⟨_, by rw [List.length_replicate], sd @rep_false, rfl⟩, rfl⟩, ⟨by simp, fun i hi => ?_⟩, by simp; omega, fun j hj => sd (vne hj)⟩
  simp at hi
  rcases hi with rfl | rfl | rfl <;> simp <;> omega

/-- Cells of the call's own. -/
def OwnCellsK (cells : List D_SignalCell) (σ : Store) (r : AV) (σ' : Store) : Prop := ∃ ids, CellsW σ'.get r cells ids ∧ NewIds σ.next σ'.next ids ∧ Kept σ σ'
theorem take_succ_cell {cells : List D_SignalCell} {k : Nat} (h : k < cells.length) : cells.take (k + 1) = cells.take k ++ [cells[k]] := List.take_succ_eq_append_getElem h

set_option maxRecDepth 100000 in
set_option maxHeartbeats 4000000 in
theorem l31Own_v (cells : List D_SignalCell) (h80 : cells.length ≤ 80) (hb : ∀ c ∈ cells, c.g_On.length ≤ 6 ∧ c.g_Bound.length ≤ 6 ∧ c.g_Fired.length ≤ 6) (σ : Store) : Call Tryz.prog 47 [.sl (cells.map eCell)] σ (OwnCellsK cells σ) := by
  refine CallB cfE rfl fun hl => ?_
  clear hl
  have g2 : ∀ l : List Bool, (l.map eBool).all (fun c => c.length == 1 && c.all AV.cell) = true := fun l => all_map fun x => ⟨rfl, rfl⟩
  (try ((repeat (revert hN; revert N; apply Pn.out)); refine wk @Nat.zero_add ?_; (repeat (refine Pn.mk ?_; intro N hN))))
  refine w_loopF (fun n env st => ∃ k : Nat, n = (cells.length) - k ∧ k ≤ (cells.length) ∧ env 4 = .int .i64 (k : Int) ∧ (∃ oid rows is, env 3 = .own oid 0 k ∧ st.get oid = some ⟨true, 6, rows⟩ ∧ RowsN CellO st.get rows (cells.take k) is ∧ NewIds σ.next st.next (oid :: is) ∧ σ.next ≤ st.next ∧ ∀ j : Id, j.ver < σ.next → st.get j = σ.get j)) (cells.length) ⟨0, by omega, by omega, by (try simp only [go_sem, ↓reduceIte, Nat.reduceEqDiff, Nat.reduceAdd, Nat.reduceSub, Nat.reduceLeDiff, reduceCtorEq]); try rfl, ⟨⟨47001000, σ.next + 1⟩, [], [], sd @Nat.zero_add, sd @Nat.zero_add, by simpa using RowsN.nil, ⟨by simp, fun i hi => by simp at hi; subst hi; simp⟩, by simp; omega, fun j hj => sd (vne hj)⟩⟩ ?_
  rintro n_a env_a st_a ⟨k, rfl, ale, a4, aI0⟩ afr
  have a0 := afr 0 (by kernel_rfl)
  simp only [go_sem, ↓reduceIte, Nat.reduceEqDiff, Nat.reduceAdd, Nat.reduceSub, Nat.reduceLeDiff, reduceCtorEq] at a0
  clear afr
  obtain ⟨oid, rows, is, a3, ag, hR, hN2, hle, hK⟩ := aI0
  by_cases hk : (k : Int) < (cells.length : Int)
  · have nexta : ∀ {e : Env} {gg : Rows} {nx : Nat}, (e 4 = .int .i64 (IntKind.i64.wrap ((k : Int) + 1))) → (∃ oid rows is, e 3 = .own oid 0 (k + 1) ∧ gg oid = some ⟨true, 6, rows⟩ ∧ RowsN CellO gg rows (cells.take (k + 1)) is ∧ NewIds σ.next nx (oid :: is) ∧ σ.next ≤ nx ∧ ∀ j : Id, j.ver < σ.next → gg j = σ.get j) → ∃ m0, m0 < (cells.length) - k ∧ ∃ k : Nat, m0 = (cells.length) - k ∧ k ≤ (cells.length) ∧ e 4 = .int .i64 (k : Int) ∧ (∃ oid rows is, e 3 = .own oid 0 k ∧ gg oid = some ⟨true, 6, rows⟩ ∧ RowsN CellO gg rows (cells.take k) is ∧ NewIds σ.next nx (oid :: is) ∧ σ.next ≤ nx ∧ ∀ j : Id, j.ver < σ.next → gg j = σ.get j) := fun x1 x2 => ⟨_, by omega, k + 1, rfl, by omega, (by rw [x1, wrap_succ2 (by omega)]), x2⟩
    have hi : k < cells.length := by omega
    have hgi : (cells.map eCell)[k]? = some (eCell cells[k]) := by simp [hi]
    have hbb := hb _ (List.getElem_mem hi)
    have hts := take_succ_cell hi
    generalize cells[k] = c at *
    obtain ⟨c1, c2, c3⟩ := hbb
    have ho := (hN2.2 oid (by simp)).2
    have hrl : rows.length = k := by rw [hR.len, List.length_take]; omega
    have e1 : k + 1 ≤ 16777216 := by omega
    have e2 : c.g_On.length ≤ 16777216 := by omega
    have e3 : c.g_Bound.length ≤ 16777216 := by omega
    have e4 : c.g_Fired.length ≤ 16777216 := by omega
    (try ((repeat (revert hN; revert N; apply Pn.out)); refine wk (tw @a4 (tw @a0 (tw @a3 (tw @ag (tw @hk (tw @hgi (tw (vne ho) (tw @g2 (tw @hrl (tw @e1 (tw @e2 (tw @e3 (tw @e4 @eCell.eq_1))))))))))))) ?_; (repeat (refine Pn.mk ?_; intro N hN))))
    have hf : ∀ i ∈ is, i.ver < st_a.next := fun i hi => (hN2.2 i (by simp [hi])).2
    have hne : ∀ i ∈ is, ¬ i = oid := fun i hi h => (List.nodup_cons.1 hN2.1).1 (h ▸ hi)
    refine nexta (sd (tw @a4 @a0)) ⟨⟨47009003, st_a.next + 1 + 1 + 1 + 1 + 1⟩, rows ++ [[.int .i64 c.g_At.g_X, .int .i64 c.g_At.g_Y, .int .i64 c.g_Tile, .own ⟨47006003, st_a.next + 1 + 1⟩ 0 c.g_On.length, .own ⟨47007003, st_a.next + 1 + 1 + 1⟩ 0 c.g_Bound.length, .own ⟨47008003, st_a.next + 1 + 1 + 1 + 1⟩ 0 c.g_Fired.length]], is ++ ([⟨47006003, st_a.next + 1 + 1⟩] ++ ([⟨47007003, st_a.next + 1 + 1 + 1⟩] ++ [⟨47008003, st_a.next + 1 + 1 + 1 + 1⟩])), sd @Nat.zero_add, sd @Nat.zero_add,
      by rw [hts]; exact (hR.frame cellOk fun i hi => sd (tw (vne (hf i hi)) (hne i hi))).app (.one ⟨_, _, _, _, _, _, rfl, .inl ⟨_, rfl, sd (vne ho), rfl⟩, .inl ⟨_, rfl, sd (vne ho), rfl⟩, .inl ⟨_, rfl, sd (vne ho), rfl⟩, rfl⟩), ?_, by (try dsimp only); omega, fun j hj => ?_⟩
    · refine ⟨?_, fun i hi => ?_⟩
      · have hnd := (List.nodup_cons.1 hN2.1).2
        rw [List.nodup_cons, List.nodup_append]
        refine ⟨fun h => ?_, hnd, by simp, fun x hx y hy e => ?_⟩
        · simp at h
          have := hf _ h
          simp at this; omega
        · subst e
          have := hf x hx
          simp at hy
          rcases hy with rfl | rfl | rfl <;> simp at this <;> omega
      · simp at hi
        rcases hi with rfl | hi | rfl | rfl | rfl
        · (try dsimp only); omega
        · have := hN2.2 i (by simp [hi])
          omega
        · (try dsimp only); omega
        · (try dsimp only); omega
        · (try dsimp only); omega
    · have h1 : ¬ j = oid := fun h => by subst h; have := (hN2.2 j (by simp)).1; omega
      have h2 := hK j hj
      simp only [go_sem, ↓reduceIte, Nat.reduceEqDiff, Nat.reduceAdd, Nat.reduceSub, Nat.reduceLeDiff, reduceCtorEq, vne (Nat.lt_of_lt_of_le hj hle), h1, h2]
  · have hkf : k = cells.length := by omega
    subst hkf
    (try ((repeat (revert hN; revert N; apply Pn.out)); refine wk (tw @a4 (tw @a0 (tw @a3 @hk))) ?_; (repeat (refine Pn.mk ?_; intro N hN))))
    refine retO (vs := [.own oid 0 cells.length]) (.inl rfl) (by simp only [vresL, vres1, go_sem, ↓reduceIte, Nat.reduceEqDiff, Nat.reduceAdd, Nat.reduceSub, Nat.reduceLeDiff, reduceCtorEq]) ⟨_, ⟨oid, rows, is, rfl, ag, by simpa using hR, rfl⟩, ⟨hN2.1, fun i hi => ?_⟩, by (try dsimp only); omega, hK⟩
    have := hN2.2 i hi
    (try dsimp only); omega


end Go.Proofs.YtpbniieiinhliaaGreat.V

namespace Go.Proofs.YtpbniieiinhliaaGreat.V
open Go.RowKit

theorem put_rows {g : Rows} {rows : List (List AV)} {cells : List D_SignalCell} {is nids : List Id} {ncs : List AV} {c : D_SignalCell} (hR : RowsN CellO g rows cells is) (hN : CellO g ncs c nids) (m : Nat) (hm : m ≤ cells.length) :
    ∃ i1 i2, is = i1 ++ i2 ∧ RowsN CellO g (rows.take m ++ ncs :: rows.drop m) (cells.take m ++ c :: cells.drop m) (i1 ++ (nids ++ i2)) := by
  obtain ⟨i1, i2, e, h1, h2⟩ := hR.upto m hm
  exact ⟨i1, i2, e, h1.app (.cons hN h2)⟩
theorem row_bound {g : Rows} {rows : List (List AV)} {cells : List D_SignalCell} {is : List Id} (hR : RowsN CellO g rows cells is) (k : Nat) (hk : k < cells.length) {x y t a f : AV} {b : Id} {n : Nat} (hr : rows[k]? = some [x, y, t, a, .own b 0 n, f]) : g b = some ⟨true, 1, cells[k].g_Bound.map eBool⟩ := by
  obtain ⟨cs, ic, h1, ⟨a', b', f', i1, i2, i3, rfl, _, q2, _, _⟩, _⟩ := hR.at_ k hk
  rw [h1] at hr
  simp only [Option.some.injEq, List.cons.injEq] at hr
  obtain ⟨_, _, _, _, hb, _⟩ := hr
  subst hb
  rcases q2 with ⟨id, h2, h3, _⟩ | ⟨_, h2, _⟩
  · injection h2 with h2; subst h2; exact h3
  · cases h2
theorem eBool_inj {l m : List Bool} (h : l.map eBool = m.map eBool) : l = m := by
  have := congrArg (List.map fun c : List AV => match c with | [.bool b] => b | _ => false) h
  simp only [List.map_map] at this
  have e : ((fun c : List AV => match c with | [.bool b] => b | _ => false) ∘ eBool) = id := funext fun b => rfl
  rw [e, List.map_id, List.map_id] at this
  exact this
theorem bound_ne {g : Rows} {rows : List (List AV)} {cells : List D_SignalCell} {is : List Id} (hR : RowsN CellO g rows cells is) (hnd : is.Nodup) {i k : Nat} (hi : i < cells.length) (hk : k < cells.length) (hik : i ≠ k) (hp : 0 < cells[i].g_Bound.length) {b b2 : Id} {x y t a f x2 y2 t2 a2 f2 : AV} {n n2 : Nat}
    (hr : rows[i]? = some [x, y, t, a, .own b 0 n, f]) (hr2 : rows[k]? = some [x2, y2, t2, a2, .own b2 0 n2, f2]) : ¬ b = b2 := by
  rintro rfl
  obtain ⟨a', b', f', h1, _, h3, h4⟩ := at_bound hR hnd i hi hp
  rw [h1] at hr
  simp only [Option.some.injEq, List.cons.injEq] at hr
  obtain ⟨_, _, _, _, hb, _⟩ := hr
  injection hb with hb; subst hb
  have k1 := row_bound hR k hk hr2
  have k2 := h4 (setR g b' ⟨true, 1, ((cells[i].g_Bound).map not).map eBool⟩) (cells[i].g_Bound.map not) (by simp [setR]) (by simp) (fun j _ hj => by simp [setR, hj])
  have k3 := row_bound k2 k (by simpa using hk) hr2
  rw [List.getElem_set_ne hik] at k3
  simp only [setR, if_true, Option.some.injEq, Row.mk.injEq, true_and] at k3
  rw [h3] at k1
  simp only [Option.some.injEq, Row.mk.injEq, true_and] at k1
  have e1 := eBool_inj k1
  have e2 := eBool_inj k3
  rw [← e1] at e2
  have e3 := congrArg (fun l : List Bool => l[0]?) e2
  simp only [List.getElem?_map, List.getElem?_eq_getElem hp, Option.map_some, Option.some.injEq] at e3
  cases hx : (cells[i].g_Bound)[0] <;> simp [hx] at e3

theorem row_on {g : Rows} {rows : List (List AV)} {cells : List D_SignalCell} {is : List Id} (hR : RowsN CellO g rows cells is) (k : Nat) (hk : k < cells.length) {x y t b f : AV} {a : Id} {n : Nat} (hr : rows[k]? = some [x, y, t, .own a 0 n, b, f]) : g a = some ⟨true, 1, cells[k].g_On.map eBool⟩ := by
  obtain ⟨cs, ic, h1, ⟨a', b', f', i1, i2, i3, rfl, q1, _, _, _⟩, _⟩ := hR.at_ k hk
  rw [h1] at hr
  simp only [Option.some.injEq, List.cons.injEq] at hr
  obtain ⟨_, _, _, hb, _⟩ := hr
  subst hb
  rcases q1 with ⟨id, h2, h3, _⟩ | ⟨_, h2, _⟩
  · injection h2 with h2; subst h2; exact h3
  · cases h2
theorem on_ne {g : Rows} {rows : List (List AV)} {cells : List D_SignalCell} {is : List Id} (hR : RowsN CellO g rows cells is) (hnd : is.Nodup) {i : Nat} (hi : i < cells.length) (hp : 0 < cells[i].g_Fired.length) {a f : Id} {x y t b : AV} {n m : Nat}
    (hr : rows[i]? = some [x, y, t, .own a 0 n, b, .own f 0 m]) : ¬ a = f := by
  rintro rfl
  obtain ⟨a', b', f', h1, _, h3, h4⟩ := at_fired hR hnd i hi hp
  have hr0 := hr
  rw [h1] at hr
  simp only [Option.some.injEq, List.cons.injEq] at hr
  obtain ⟨_, _, _, _, _, hb, _⟩ := hr
  injection hb with hb; subst hb
  have k1 := row_on hR i hi hr0
  have k2 := h4 (setR g f' ⟨true, 1, ((cells[i].g_Fired).map not).map eBool⟩) (cells[i].g_Fired.map not) (by simp [setR]) (by simp) (fun j _ hj => by simp [setR, hj])
  have k3 := row_on k2 i (by simpa using hi) hr0
  simp only [List.getElem_set_self, setR, if_true, Option.some.injEq, Row.mk.injEq, true_and] at k3
  rw [h3] at k1
  simp only [Option.some.injEq, Row.mk.injEq, true_and] at k1
  have e1 := eBool_inj k1
  have e2 := eBool_inj k3
  rw [← e1] at e2
  have e3 := congrArg (fun l : List Bool => l[0]?) e2
  simp only [List.getElem?_map, List.getElem?_eq_getElem hp, Option.map_some, Option.some.injEq] at e3
  cases hx : (cells[i].g_Fired)[0] <;> simp [hx] at e3


end Go.Proofs.YtpbniieiinhliaaGreat.V

namespace Go.Proofs.YtpbniieiinhliaaGreat.V
open Go.RowKit
attribute [local irreducible] wpv wpOps PCx Call
attribute [local go_sem] wantedV vop qop eop vis evO upd envOf K.av boxOf AV.cells AV.cell rowOf rowsOf part ld rowAt setR killR ibin vbin vsh vclear vsbin sbin eq1 eqL xorB vnil vnilS vnilF hiOf loOf vslice vsliceS viaddr vidxS vidxA vlen vnot vneg vconv vconvS vpick vchk vfield vextract vlenS fillV vmk rowsIn putCs vstore vappend seqQ blockQ most AV.undef callW locP locQ List.getD_cons_zero List.getD_cons_succ List.getD_nil List.all_cons List.all_nil Bool.and_true Bool.true_and Bool.and_self Bool.not_true Bool.not_false Option.map_some Option.map_none Option.bind_some Option.bind_none List.length_cons List.length_nil List.take_succ_cons List.take_zero List.take_nil List.drop_succ_cons List.drop_zero List.drop_nil List.head?_cons List.map_cons List.map_nil List.getElem?_cons_zero List.getElem?_cons_succ List.cons_append List.nil_append List.append_nil List.length_map List.set_cons_zero List.set_cons_succ Nat.reduceMul eq_self Int.toNat_natCast Int.natCast_nonneg and_self true_and and_true decide_true decide_false Bool.false_eq_true Nat.zero_add Nat.add_zero List.contains_cons List.contains_nil Bool.or_false Bool.false_or beq_self_eq_true Nat.reduceBEq ne_eq not_true_eq_false not_false_eq_true Id.mk.injEq false_and and_false Nat.reduceLT Int.reduceLE Int.reduceLT Int.reduceToNat Int.reduceNeg Int.reduceAdd Nat.le_refl List.length_append beq_true beq_false Bool.not_eq_eq_eq_not or_false false_or rw_ fzRow_cons fzRow_nil fz_int fz_bool fz_str fz_sl fz_nils fz_agg fz_iptr fz_ptrE fz_fn

/-- An event done: cells of the call's own, or no room. -/
def DoK (s : D_SignalSet) (cells : List D_SignalCell) (e : D_SignalEvent) (ids : List Id) (σ : Store) (r : AV) (σ' : Store) : Prop :=
  ∃ x ids', r = .tup [x, .int .i64 (if fullE cells e then 4 else 0)] ∧ CellsW σ'.get x (if fullE cells e then [] else doE s cells e) ids' ∧ ids'.Nodup ∧ (∀ i ∈ ids', i.ver < σ'.next) ∧ (∀ i ∈ ids', i ∈ ids ∨ σ.next ≤ i.ver) ∧ σ.next ≤ σ'.next ∧ ∀ j : Id, j.ver < σ.next → j ∉ ids → σ'.get j = σ.get j

/-- What is left of a list and what is new, apart. -/
theorem nodup_new {a b : Nat} {oid aid : Id} {nids is i1 i2 : List Id} (hnd : (aid :: is).Nodup) (he : is = i1 ++ i2) (hlt : ∀ i ∈ is, i.ver < a) (hn : NewIds a b (oid :: nids)) : (oid :: (i1 ++ (nids ++ i2))).Nodup := by
  subst he
  obtain ⟨h1, h2⟩ := List.nodup_cons.1 hn.1
  obtain ⟨n1, n2, n3⟩ := List.nodup_append.1 (List.nodup_cons.1 hnd).2
  have lo := fun i hi => (hn.2 i hi).1
  rw [List.nodup_cons, List.nodup_append, List.nodup_append]
  refine ⟨fun h => ?_, n1, ⟨h2, n2, fun x hx y hy e => ?_⟩, fun x hx y hy e => ?_⟩
  · have l0 := lo oid (by simp)
    rcases List.mem_append.1 h with h | h
    · have := hlt oid (by simp [h]); omega
    · rcases List.mem_append.1 h with h | h
      · exact h1 h
      · have := hlt oid (by simp [h]); omega
  · subst e
    have := lo x (by simp [hx]); have := hlt x (by simp [hy]); omega
  · subst e
    rcases List.mem_append.1 hy with hy | hy
    · have := lo x (by simp [hy]); have := hlt x (by simp [hx]); omega
    · exact n3 x hx x hy rfl

theorem do1_post {s : D_SignalSet} {cells : List D_SignalCell} {ev : D_SignalEvent} {σ σ2 : Store} {aid oid : Id} {rows : List (List AV)} {is nids : List Id} {ncs : List AV} (hk : ev.g_Kind = 1) (hfe : fullE cells ev = false) (hR : RowsN CellO σ.get rows cells is) (hnd : (aid :: is).Nodup) (hver : ∀ i ∈ aid :: is, i.ver < σ.next)
    (hn : NewIds σ.next σ2.next (oid :: nids)) (ho : σ2.get oid = some ⟨true, 6, rows.take (putPos cells ev.g_At) ++ ncs :: rows.drop (putPos cells ev.g_At)⟩) (hnc : CellO σ2.get ncs (bornC s ev.g_At ev.g_Num) nids) (hfr : ∀ j : Id, j.ver < σ.next → σ2.get j = σ.get j) (hle : σ.next ≤ σ2.next) :
    DoK s cells ev (aid :: is) σ (.tup [.own oid 0 (cells.length + 1), .int .i64 0]) σ2 := by
  have hm := putPos_le cells ev.g_At
  have hR2 := hR.frame cellOk (g' := σ2.get) fun i hi => hfr i (hver i (by simp [hi]))
  obtain ⟨i1, i2, he, h⟩ := put_rows hR2 hnc (putPos cells ev.g_At) hm
  have hdo : doE s cells ev = putC cells ev.g_At (bornC s ev.g_At ev.g_Num) := by simp [doE, hk]
  refine ⟨_, oid :: (i1 ++ (nids ++ i2)), by rw [hfe]; rfl, ⟨oid, _, _, by rw [hfe, if_neg (by simp), hdo, putC_len], ho, by rw [hfe, if_neg (by simp), hdo]; exact h, rfl⟩, nodup_new hnd he (fun i hi => hver i (by simp [hi])) hn, fun i hi => ?_, fun i hi => ?_, hle, fun j hj _ => hfr j hj⟩
  · rcases List.mem_cons.1 hi with rfl | hi
    · exact (hn.2 _ (by simp)).2
    · rcases List.mem_append.1 hi with hi | hi
      · exact Nat.lt_of_lt_of_le (hver i (by rw [he]; simp [hi])) hle
      · rcases List.mem_append.1 hi with hi | hi
        · exact (hn.2 i (by simp [hi])).2
        · exact Nat.lt_of_lt_of_le (hver i (by rw [he]; simp [hi])) hle
  · rcases List.mem_cons.1 hi with rfl | hi
    · exact .inr (hn.2 _ (by simp)).1
    · rcases List.mem_append.1 hi with hi | hi
      · exact .inl (by rw [he]; simp [hi])
      · rcases List.mem_append.1 hi with hi | hi
        · exact .inr (hn.2 i (by simp [hi])).1
        · exact .inl (by rw [he]; simp [hi])

set_option maxRecDepth 100000 in
set_option maxHeartbeats 4000000 in
theorem l31Do_v (s : D_SignalSet) (temp : Int) (cells : List D_SignalCell) (ev : D_SignalEvent) (hok : CellsOk s cells) (hc : canE s temp cells ev = true) (σ : Store) (sid : Id) (hv : sid.ver < σ.next) (hs : σ.get sid = some ⟨true, 2, [eSet s]⟩)
    (aid : Id) (rows : List (List AV)) (is : List Id) (hg : σ.get aid = some ⟨true, 6, rows⟩) (hR : RowsN CellO σ.get rows cells is) (hnd : (aid :: is).Nodup) (hver : ∀ i ∈ aid :: is, i.ver < σ.next) (hsid : sid ∉ aid :: is) :
    Call Tryz.prog 46 [.ptr sid 0 0, .own aid 0 cells.length, .agg (eEvent ev)] σ (DoK s cells ev (aid :: is) σ) := by
  have hF : ∀ g : Rows, (∀ i ∈ aid :: is, g i = σ.get i) → ∀ q : D_Point, fzRow (rw_ g) 6 [.own aid 0 cells.length, .agg [.int .i64 q.g_X, .int .i64 q.g_Y]] = some [.sl (cells.map eCell), .agg (ePoint q)] := fun g hgi q => by
    have h1 := fz_rows (hR.frame cellOk fun i hi => hgi i (by simp [hi])) ((hgi aid (by simp)).trans hg)
    simp only [fzRow_cons, fzRow_nil, h1, fz_agg, fz_int, Option.map_some]; rfl
  have hav := hver aid (by simp)
  have hrl := hR.len
  refine CallB cfE rfl fun hl => ?_
  clear hl
  have hfew := hok.few
  (try ((repeat (revert hN; revert N; apply Pn.out)); refine wk (tw (vne hv) (tw (vne hav) @eEvent.eq_1)) ?_; (repeat (refine Pn.mk ?_; intro N hN))))
  refine .inl ⟨_, RetS.x (l31Index_v cells ev.g_At) (hF _ (fun i hi => sd (vne (hver i hi))) ev.g_At), ?_⟩
  refine hN _ _ ?_
  clear hN N
  by_cases hk : ev.g_Kind = 1
  · have h1 := can1 hc hk
    have hidx : idxI cells ev.g_At = -1 := if_neg h1.free
    by_cases hfull : 80 ≤ cells.length
    · have c1 : (80 : Int) ≤ (cells.length : Int) := by omega
      have hfe : fullE cells ev = true := by simp [fullE, hk, hfull]
      (try ((repeat (revert hN; revert N; apply Pn.out)); refine wk (tw @hs (tw @hg (tw (vne hv) (tw (vne hav) (tw @hk (tw @hidx (tw @c1 @eEvent.eq_1))))))) ?_; (repeat (refine Pn.mk ?_; intro N hN))))
      refine retO (.inl rfl) (by simp only [vresL, vres1, go_sem, ↓reduceIte, Nat.reduceEqDiff, Nat.reduceAdd, Nat.reduceSub, Nat.reduceLeDiff, reduceCtorEq]; rfl) ⟨_, [⟨46005000, σ.next + 1 + 1 + 1 + 1 + 1⟩], by rw [hfe]; rfl, ⟨_, [], [], by rw [hfe]; rfl, sd @Nat.zero_add, by rw [hfe]; exact .nil, rfl⟩, by simp, fun i hi => ?_, fun i hi => ?_, by simp; omega, fun j hj _ => sd (vne hj)⟩
      · simp at hi; subst hi; simp
      · simp at hi; subst hi; right; simp; omega
    · have c1 : ¬ (80 : Int) ≤ (cells.length : Int) := by omega
      have hfe : fullE cells ev = false := by simp [fullE, hk, hfull]
      have hdo : doE s cells ev = putC cells ev.g_At (bornC s ev.g_At ev.g_Num) := by simp [doE, hk]
      have hm := putPos_le cells ev.g_At
      have hT := hok.set.form _ (tile_mem h1.n0 h1.n1)
      have h6 := (hok.set.tiles ev.g_Num.toNat (by have := h1.n1; have := h1.n0; omega)).few
      rw [← tileAt_N] at h6
      (try ((repeat (revert hN; revert N; apply Pn.out)); refine wk (tw @hs (tw @hg (tw (vne hv) (tw (vne hav) (tw @hk (tw @hidx (tw @c1 @eEvent.eq_1))))))) ?_; (repeat (refine Pn.mk ?_; intro N hN))))
      refine w_loopF (fun n env st => ∃ k : Nat, n = (cells.length) - k ∧ k ≤ (cells.length) ∧ env 11 = .int .i64 (k : Int) ∧ st.get ⟨46000000, σ.next⟩ = some ⟨true, 4, [eEvent ev]⟩ ∧ (∃ oid ro, env 9 = .own oid 0 ro.length ∧ st.get oid = some ⟨true, 6, ro⟩ ∧ σ.next < oid.ver ∧ oid.ver < st.next ∧ ((k ≤ putPos cells ev.g_At ∧ env 10 = .bool false ∧ ro = rows.take k) ∨ (putPos cells ev.g_At < k ∧ env 10 = .bool true ∧ ∃ ncs nids, ro = rows.take (putPos cells ev.g_At) ++ ncs :: (rows.take k).drop (putPos cells ev.g_At) ∧ CellO st.get ncs (bornC s ev.g_At ev.g_Num) nids ∧ NewIds σ.next st.next (oid :: nids))) ∧ (∀ j : Id, j.ver < σ.next → st.get j = σ.get j) ∧ σ.next < st.next)) (cells.length) ⟨0, by omega, by omega, by (try simp only [go_sem, ↓reduceIte, Nat.reduceEqDiff, Nat.reduceAdd, Nat.reduceSub, Nat.reduceLeDiff, reduceCtorEq, vne hv, vne hav, hk, eEvent]); try rfl, by (try simp only [go_sem, ↓reduceIte, Nat.reduceEqDiff, Nat.reduceAdd, Nat.reduceSub, Nat.reduceLeDiff, reduceCtorEq, vne hv, vne hav, hk, eEvent]); try rfl, ⟨⟨46006000, σ.next + 1 + 1 + 1 + 1 + 1⟩, [], sd @Nat.zero_add, sd @Nat.zero_add, by simp; omega, by simp, .inl ⟨Nat.zero_le _, sd @Nat.zero_add, rfl⟩, fun j hj => sd (vne hj), by simp; omega⟩⟩ ?_
      rintro n_a env_a st_a ⟨k, rfl, ale, a11, ag0, aI0⟩ afr
      have a0 := afr 0 (by kernel_rfl); have a1 := afr 1 (by kernel_rfl); have a5 := afr 5 (by kernel_rfl)
      simp only [go_sem, ↓reduceIte, Nat.reduceEqDiff, Nat.reduceAdd, Nat.reduceSub, Nat.reduceLeDiff, reduceCtorEq, vne hv, vne hav, hk, eEvent] at a0 a1 a5
      clear afr
      obtain ⟨oid, ro, a9, ao, hlo, hhi, hcase, hfr, hnx⟩ := aI0
      have hsa : st_a.get sid = some ⟨true, 2, [eSet s]⟩ := (hfr sid hv).trans hs
      have hga : st_a.get aid = some ⟨true, 6, rows⟩ := (hfr aid hav).trans hg
      have v1 := vne (Nat.lt_trans hv hnx)
      have v2 := vne (Nat.lt_trans hav hnx)
      have v3 := vne hhi
      have x1 := ver_ne (a := sid) (b := oid) (by omega)
      have x2 := ver_ne (a := aid) (b := oid) (by omega)
      have x3 := ver_ne (a := ⟨46000000, σ.next⟩) (b := oid) hlo
      by_cases hkl : (k : Int) < (cells.length : Int)
      · have nexta : ∀ {e : Env} {gg : Rows} {nx : Nat}, (e 11 = .int .i64 (IntKind.i64.wrap ((k : Int) + 1))) → (gg ⟨46000000, σ.next⟩ = some ⟨true, 4, [eEvent ev]⟩) → (∃ oid ro, e 9 = .own oid 0 ro.length ∧ gg oid = some ⟨true, 6, ro⟩ ∧ σ.next < oid.ver ∧ oid.ver < nx ∧ (((k + 1) ≤ putPos cells ev.g_At ∧ e 10 = .bool false ∧ ro = rows.take (k + 1)) ∨ (putPos cells ev.g_At < (k + 1) ∧ e 10 = .bool true ∧ ∃ ncs nids, ro = rows.take (putPos cells ev.g_At) ++ ncs :: (rows.take (k + 1)).drop (putPos cells ev.g_At) ∧ CellO gg ncs (bornC s ev.g_At ev.g_Num) nids ∧ NewIds σ.next nx (oid :: nids))) ∧ (∀ j : Id, j.ver < σ.next → gg j = σ.get j) ∧ σ.next < nx) → ∃ m0, m0 < (cells.length) - k ∧ ∃ k : Nat, m0 = (cells.length) - k ∧ k ≤ (cells.length) ∧ e 11 = .int .i64 (k : Int) ∧ gg ⟨46000000, σ.next⟩ = some ⟨true, 4, [eEvent ev]⟩ ∧ (∃ oid ro, e 9 = .own oid 0 ro.length ∧ gg oid = some ⟨true, 6, ro⟩ ∧ σ.next < oid.ver ∧ oid.ver < nx ∧ ((k ≤ putPos cells ev.g_At ∧ e 10 = .bool false ∧ ro = rows.take k) ∨ (putPos cells ev.g_At < k ∧ e 10 = .bool true ∧ ∃ ncs nids, ro = rows.take (putPos cells ev.g_At) ++ ncs :: (rows.take k).drop (putPos cells ev.g_At) ∧ CellO gg ncs (bornC s ev.g_At ev.g_Num) nids ∧ NewIds σ.next nx (oid :: nids))) ∧ (∀ j : Id, j.ver < σ.next → gg j = σ.get j) ∧ σ.next < nx) := fun x1 x2 x3 => ⟨_, by omega, k + 1, rfl, by omega, (by rw [x1, wrap_succ2 (by omega)]), x2, x3⟩
        have hi : k < cells.length := by omega
        obtain ⟨ca, cb, cf, hrow, q1, q2, q3⟩ := row_xyt hR k hi
        have hck := cellAt_eq hi
        have hkr : k < rows.length := by omega
        have htk : rows.take (k + 1) = rows.take k ++ [rows[k]] := List.take_succ_eq_append_getElem hkr
        have hrk : rows[k] = [.int .i64 cells[k].g_At.g_X, .int .i64 cells[k].g_At.g_Y, .int .i64 cells[k].g_Tile, ca, cb, cf] := by
          rw [List.getElem?_eq_getElem hkr] at hrow; exact Option.some.inj hrow
        rw [← hck] at hrow hrk
        generalize hcc : cellAt cells k = c at *
        simp only [AV.cell] at q1 q2 q3
        have hfrx : ∀ j : Id, j.ver < σ.next → (j = oid) = False ∧ st_a.get j = σ.get j := fun j hj => ⟨(ver_ne (by omega)).1, hfr j hj⟩
        rcases hcase with ⟨hkm, a10, rfl⟩ | ⟨hkm, a10, ncs, nids, hro, hnc, hnn⟩
        · have hrol : (rows.take k).length = k := by rw [List.length_take]; omega
          have e1 : (rows.take k).length + 1 ≤ 16777216 := by omega
          cases hlt : ltB ev.g_At c.g_At
          · (repeat (first | ((repeat (revert hN; revert N; apply Pn.out)); refine wk (tw @a11 (tw @ag0 (tw @a0 (tw @a1 (tw @a5 (tw @a9 (tw @a10 (tw @ao (tw @hsa (tw @hga (tw @hkl (tw @hrow (tw @hlt (tw @v1 (tw @v2 (tw @v3 (tw @x1 (tw @x2 (tw @x3 (tw @e1 (tw @q1 (tw @q2 (tw @q3 (tw @eEvent.eq_1 @ePoint.eq_1)))))))))))))))))))))))) ?_; (repeat (refine Pn.mk ?_; intro N hN))) | ((try apply Or.inl); refine ⟨_, Ret.x (sLess_v ev.g_At c.g_At) _, ?_⟩; refine hN _ _ ?_; clear hN N)))
            refine nexta (sd (tw @a11 (tw @ag0 (tw @a0 (tw @a1 @a5))))) (sd (tw @a11 (tw @ag0 (tw @a0 (tw @a1 (tw @a5 @x3)))))) ⟨⟨46014006, st_a.next + 1 + 1⟩, rows.take k ++ [[.int .i64 c.g_At.g_X, .int .i64 c.g_At.g_Y, .int .i64 c.g_Tile, ca, cb, cf]], sd @Nat.zero_add, sd @Nat.zero_add, by (try dsimp only); omega, by (try dsimp only); omega, .inl ⟨?_, sd @a10, by rw [htk, hrk]⟩, fun j hj => ?_, by (try dsimp only); omega⟩
            · rcases Nat.lt_or_ge k (putPos cells ev.g_At) with h | h
              · exact h
              · exfalso
                have hke : putPos cells ev.g_At = k := by omega
                have := putPos_at (cells := cells) (p := ev.g_At) (by omega)
                rw [hke, hcc, hlt] at this; cases this
            · obtain ⟨y1, y2⟩ := hfrx j hj
              simp only [go_sem, ↓reduceIte, Nat.reduceEqDiff, Nat.reduceAdd, Nat.reduceSub, Nat.reduceLeDiff, reduceCtorEq, vne (Nat.lt_trans hj hnx), y1, y2]
          · have hke : putPos cells ev.g_At = k := by
              rcases Nat.lt_or_ge k (putPos cells ev.g_At) with h | h
              · have := putPos_before h
                rw [hcc, hlt] at this; cases this
              · omega
            (repeat (first | ((repeat (revert hN; revert N; apply Pn.out)); refine wk (tw @a11 (tw @ag0 (tw @a0 (tw @a1 (tw @a5 (tw @a9 (tw @a10 (tw @ao (tw @hsa (tw @hga (tw @hkl (tw @hrow (tw @hlt (tw @v1 (tw @v2 (tw @v3 (tw @x1 (tw @x2 (tw @x3 (tw @e1 (tw @q1 (tw @q2 (tw @q3 (tw @eEvent.eq_1 @ePoint.eq_1)))))))))))))))))))))))) ?_; (repeat (refine Pn.mk ?_; intro N hN))) | ((try apply Or.inl); refine ⟨_, Ret.x (sLess_v ev.g_At c.g_At) _, ?_⟩; refine hN _ _ ?_; clear hN N)))
            refine .inr ?_
            refine Call_mono _ _ _ _ _ (fun r σ' hq => ?_) (l31New_v s ev.g_At ev.g_Num h1.n0 h1.n1 hT h6 _ sid (by (try dsimp only); omega) (sd (tw @hsa @v1)))
            obtain ⟨ncs, nids, rfl, hnc, hni, hn1, hn2⟩ := hq
            simp only [] at hn1 hni
            have f1 := hn2 aid (by (try dsimp only); omega)
            have f2 := hn2 oid (by (try dsimp only); omega)
            have f3 := hn2 ⟨46000000, σ.next⟩ (by (try dsimp only); omega)
            have f0 := hn2 sid (by (try dsimp only); omega)
            simp only [go_sem, ↓reduceIte, Nat.reduceEqDiff, Nat.reduceAdd, Nat.reduceSub, Nat.reduceLeDiff, reduceCtorEq, a11, ag0, a0, a1, a5, hsa, hga, ao, v1, v2, v3, x1, x2, x3] at f0 f1 f2 f3
            have n1 := cellOk.len hnc
            have n2 := cellOk.cell hnc
            have w1 := vne (i := sid) (n := σ'.next) (by omega)
            have w2 := vne (i := aid) (n := σ'.next) (by omega)
            have w3 := vne (i := oid) (n := σ'.next) (by omega)
            have e2 : (rows.take k).length + 1 + 1 ≤ 16777216 := by omega
            refine hN _ _ ?_
            clear hN N
            (try ((repeat (revert hN; revert N; apply Pn.out)); refine wk (tw @a11 (tw @ag0 (tw @a0 (tw @a1 (tw @a5 (tw @f0 (tw @f1 (tw @f2 (tw @f3 (tw @hrow (tw @hkl (tw @w1 (tw @w2 (tw @w3 (tw @x1 (tw @x2 (tw @x3 (tw @n1 (tw @n2 (tw @e1 (tw @e2 (tw @q1 (tw @q2 (tw @q3 (tw @eEvent.eq_1 @ePoint.eq_1))))))))))))))))))))))))) ?_; (repeat (refine Pn.mk ?_; intro N hN))))
            have hnl : ∀ i ∈ nids, i.ver < σ'.next ∧ st_a.next ≤ i.ver := fun i hi => by have := hni.2 i hi; omega
            have hno : ∀ i ∈ nids, (i = oid) = False := fun i hi => (ver_ne (by have := hnl i hi; omega)).2
            refine nexta (sd (tw @a11 (tw @ag0 (tw @a0 (tw @a1 @a5))))) (sd (tw @f3 @x3)) ⟨⟨46014006, σ'.next + 1⟩, (rows.take k ++ [ncs]) ++ [[.int .i64 c.g_At.g_X, .int .i64 c.g_At.g_Y, .int .i64 c.g_Tile, ca, cb, cf]], sd @Nat.zero_add, sd @Nat.zero_add, by (try dsimp only); omega, by (try dsimp only); omega, .inr ⟨by omega, sd @Nat.zero_add, ncs, nids, ?_, cellOk.frame hnc fun i hi => sd (tw (hno i hi) (vne (hnl i hi).1)), ⟨?_, fun i hi => ?_⟩⟩, fun j hj => ?_, by (try dsimp only); omega⟩
            · rw [hke, htk, hrk, List.drop_append_of_le_length (by omega), List.drop_of_length_le (by omega)]; simp
            · rw [List.nodup_cons]
              exact ⟨fun h => by have := hnl _ h; simp at this; omega, hni.1⟩
            · rcases List.mem_cons.1 hi with rfl | hi
              · (try dsimp only); omega
              · have := hnl i hi; omega
            · obtain ⟨y1, y2⟩ := hfrx j hj
              have y3 := hn2 j (by (try dsimp only); omega)
              simp only [go_sem, ↓reduceIte, Nat.reduceEqDiff, Nat.reduceAdd, Nat.reduceSub, Nat.reduceLeDiff, reduceCtorEq, vne (Nat.lt_trans hj hnx)] at y3
              simp only [go_sem, ↓reduceIte, Nat.reduceEqDiff, Nat.reduceAdd, Nat.reduceSub, Nat.reduceLeDiff, reduceCtorEq, vne (show j.ver < σ'.next by omega), y1, y2, y3]
        · have hml : (rows.take (putPos cells ev.g_At)).length = putPos cells ev.g_At := by rw [List.length_take]; omega
          have hrl2 : ro.length = k + 1 := by
            rw [hro, List.length_append, List.length_cons, List.length_drop, List.length_take, List.length_take]; omega
          have e1 : ro.length + 1 ≤ 16777216 := by omega
          (try ((repeat (revert hN; revert N; apply Pn.out)); refine wk (tw @a11 (tw @ag0 (tw @a0 (tw @a1 (tw @a5 (tw @a9 (tw @a10 (tw @ao (tw @hsa (tw @hga (tw @hkl (tw @hrow (tw @v1 (tw @v2 (tw @v3 (tw @x1 (tw @x2 (tw @x3 (tw @e1 (tw @q1 (tw @q2 (tw @q3 (tw @eEvent.eq_1 @ePoint.eq_1))))))))))))))))))))))) ?_; (repeat (refine Pn.mk ?_; intro N hN))))
          have hnl : ∀ i ∈ nids, i.ver < st_a.next := fun i hi => (hnn.2 i (by simp [hi])).2
          have hno : ∀ i ∈ nids, (i = oid) = False := fun i hi => by
            simp only [eq_iff_iff, iff_false]
            rintro rfl
            exact (List.nodup_cons.1 hnn.1).1 hi
          refine nexta (sd (tw @a11 (tw @ag0 (tw @a0 (tw @a1 @a5))))) (sd (tw @a11 (tw @ag0 (tw @a0 (tw @a1 (tw @a5 @x3)))))) ⟨⟨46014006, st_a.next + 1 + 1⟩, ro ++ [[.int .i64 c.g_At.g_X, .int .i64 c.g_At.g_Y, .int .i64 c.g_Tile, ca, cb, cf]], sd @Nat.zero_add, sd @Nat.zero_add, by (try dsimp only); omega, by (try dsimp only); omega, .inr ⟨by omega, sd @a10, ncs, nids, ?_, cellOk.frame hnc fun i hi => sd (tw (hno i hi) (vne (hnl i hi))), ⟨?_, fun i hi => ?_⟩⟩, fun j hj => ?_, by (try dsimp only); omega⟩
          · rw [hro, htk, hrk, List.drop_append_of_le_length (by rw [List.length_take]; omega)]; simp
          · rw [List.nodup_cons]
            exact ⟨fun h => by have := hnl _ h; simp at this; omega, (List.nodup_cons.1 hnn.1).2⟩
          · rcases List.mem_cons.1 hi with rfl | hi
            · (try dsimp only); omega
            · have := hnn.2 i (by simp [hi]); omega
          · obtain ⟨y1, y2⟩ := hfrx j hj
            simp only [go_sem, ↓reduceIte, Nat.reduceEqDiff, Nat.reduceAdd, Nat.reduceSub, Nat.reduceLeDiff, reduceCtorEq, vne (Nat.lt_trans hj hnx), y1, y2]
      · have hke : k = cells.length := by omega
        subst hke
        have htr : rows.take cells.length = rows := List.take_of_length_le (by omega)
        rw [htr] at hcase
        rcases hcase with ⟨hkm, a10, rfl⟩ | ⟨hkm, a10, ncs, nids, hro, hnc, hnn⟩
        · have hke : putPos cells ev.g_At = cells.length := by omega
          have e1 : ro.length + 1 ≤ 16777216 := by omega
          (try ((repeat (revert hN; revert N; apply Pn.out)); refine wk (tw @a11 (tw @ag0 (tw @a0 (tw @a1 (tw @a5 (tw @a9 (tw @a10 (tw @ao (tw @hsa (tw @hga (tw @hkl (tw @v1 (tw @v2 (tw @v3 (tw @x1 (tw @x2 (tw @x3 (tw @eEvent.eq_1 @ePoint.eq_1)))))))))))))))))) ?_; (repeat (refine Pn.mk ?_; intro N hN))))
          refine .inr ?_
          refine Call_mono _ _ _ _ _ (fun r σ' hq => ?_) (l31New_v s ev.g_At ev.g_Num h1.n0 h1.n1 hT h6 _ sid (by (try dsimp only); omega) (sd (tw @hsa @v1)))
          obtain ⟨ncs, nids, rfl, hnc, hni, hn1, hn2⟩ := hq
          simp only [] at hn1 hni
          have f1 := hn2 aid (by (try dsimp only); omega)
          have f2 := hn2 oid (by (try dsimp only); omega)
          simp only [go_sem, ↓reduceIte, Nat.reduceEqDiff, Nat.reduceAdd, Nat.reduceSub, Nat.reduceLeDiff, reduceCtorEq, a11, ag0, a0, a1, a5, hsa, hga, ao, v1, v2, v3, x1, x2, x3] at f1 f2
          have n1 := cellOk.len hnc
          have n2 := cellOk.cell hnc
          have w3 := vne (i := oid) (n := σ'.next) (by omega)
          refine hN _ _ ?_
          clear hN N
          (try ((repeat (revert hN; revert N; apply Pn.out)); refine wk (tw @a11 (tw @ag0 (tw @a0 (tw @a1 (tw @a5 (tw @f1 (tw @f2 (tw @w3 (tw @x2 (tw @n1 (tw @n2 (tw @e1 (tw @eEvent.eq_1 @ePoint.eq_1))))))))))))) ?_; (repeat (refine Pn.mk ?_; intro N hN))))
          have hnl : ∀ i ∈ nids, i.ver < σ'.next ∧ st_a.next ≤ i.ver := fun i hi => by have := hni.2 i hi; omega
          have hno : ∀ i ∈ nids, (i = oid) = False := fun i hi => (ver_ne (by have := hnl i hi; omega)).2
          have hd0 : ro.drop cells.length = [] := List.drop_of_length_le (by omega)
          refine retO (vs := [.own ⟨46016008, σ'.next⟩ 0 (cells.length + 1), .int .i64 0]) (.inl rfl) (by simp only [vresL, vres1, go_sem, ↓reduceIte, Nat.reduceEqDiff, Nat.reduceAdd, Nat.reduceSub, Nat.reduceLeDiff, reduceCtorEq, hrl]) (do1_post (σ2 := ⟨_, _⟩) (oid := ⟨46016008, σ'.next⟩) (nids := nids) (ncs := ncs) hk hfe hR hnd hver ⟨?_, fun i hi => ?_⟩ (by rw [hke, htr, hd0]; simp only [go_sem, ↓reduceIte, Nat.reduceEqDiff, Nat.reduceAdd, Nat.reduceSub, Nat.reduceLeDiff, reduceCtorEq]) (cellOk.frame hnc fun i hi => sd (tw (hno i hi) (vne (hnl i hi).1))) (fun j hj => ?_) (by (try dsimp only); omega))
          · rw [List.nodup_cons]
            exact ⟨fun h => by have := hnl _ h; simp at this, hni.1⟩
          · rcases List.mem_cons.1 hi with rfl | hi
            · (try dsimp only); omega
            · have := hnl i hi; (try dsimp only); omega
          · have y1 := (ver_ne (a := j) (b := oid) (by omega)).1
            have y2 := hfr j hj
            have y3 := hn2 j (by (try dsimp only); omega)
            simp only [go_sem, ↓reduceIte, Nat.reduceEqDiff, Nat.reduceAdd, Nat.reduceSub, Nat.reduceLeDiff, reduceCtorEq, vne (Nat.lt_trans hj hnx)] at y3
            simp only [go_sem, ↓reduceIte, Nat.reduceEqDiff, Nat.reduceAdd, Nat.reduceSub, Nat.reduceLeDiff, reduceCtorEq, vne (show j.ver < σ'.next by omega), y1, y2, y3]
        · have hrl2 : ro.length = cells.length + 1 := by
            rw [hro, List.length_append, List.length_cons, List.length_drop, List.length_take]; omega
          (try ((repeat (revert hN; revert N; apply Pn.out)); refine wk (tw @a11 (tw @ag0 (tw @a0 (tw @a1 (tw @a5 (tw @a9 (tw @a10 @hkl))))))) ?_; (repeat (refine Pn.mk ?_; intro N hN))))
          exact retO (vs := [.own oid 0 (cells.length + 1), .int .i64 0]) (.inl rfl) (by simp only [vresL, vres1, go_sem, ↓reduceIte, Nat.reduceEqDiff, Nat.reduceAdd, Nat.reduceSub, Nat.reduceLeDiff, reduceCtorEq, hrl2]) (do1_post (σ2 := ⟨_, _⟩) (nids := nids) hk hfe hR hnd hver (hnn.wide (Nat.le_refl _) (by (try dsimp only); omega)) (by rw [← hro]; exact ao) hnc hfr (by (try dsimp only); omega))
  by_cases hk2 : ev.g_Kind = 2
  · have h2 := can2 hc hk2
    have hfe : fullE cells ev = false := by simp [fullE, hk]
    have hdo : doE s cells ev = bindL cells ev := by simp [doE, hk2]
    have hidx : idxI cells ev.g_At = (idxN cells ev.g_At : Int) := if_pos h2.at_
    have hnx : idxI cells (stepP ev.g_At ev.g_Num) = (nextI cells ev : Int) := if_pos h2.next
    have hpt := hok.form _ (List.getElem_mem h2.at_)
    have hat := idx_at h2.at_
    rw [cellAt_eq h2.at_] at hat
    have hpt2 := hpt.at_
    rw [hat] at hpt2
    obtain ⟨bx, by_⟩ := iB_of hpt2
    have hst := l01Step_v ev.g_At ev.g_Num bx by_
    (repeat (first | ((repeat (revert hN; revert N; apply Pn.out)); refine wk (tw @hs (tw @hg (tw (vne hv) (tw (vne hav) (tw @hk (tw @hk2 (tw @hidx (tw @eEvent.eq_1 @ePoint.eq_1)))))))) ?_; (repeat (refine Pn.mk ?_; intro N hN))) | ((try apply Or.inl); refine ⟨_, Ret.x (hst) _, ?_⟩; refine hN _ _ ?_; clear hN N)))
    refine .inl ⟨_, RetS.x (l31Index_v cells (stepP ev.g_At ev.g_Num)) (hF _ (fun i hi => sd (vne (hver i hi))) _), ?_⟩
    refine hN _ _ ?_
    clear hN N
    have hnd2 := (List.nodup_cons.1 hnd).2
    have hp1 : 0 < (cells[idxN cells ev.g_At]'h2.at_).g_Bound.length := by rw [(hok.form _ (List.getElem_mem h2.at_)).bound]; omega
    have hp2 : 0 < (cells[nextI cells ev]'h2.next).g_Bound.length := by rw [(hok.form _ (List.getElem_mem h2.next)).bound]; omega
    obtain ⟨a1, b1, f1, r1, m1, g1, t1⟩ := at_bound hR hnd2 (idxN cells ev.g_At) h2.at_ hp1
    obtain ⟨a2, b2, f2, r2, m2, g2, t2⟩ := at_bound hR hnd2 (nextI cells ev) h2.next hp2
    have hne := bound_ne hR hnd2 h2.at_ h2.next (fun h => h2.ne h.symm) hp1 r1 r2
    have w1 := vne (hver b1 (by simp [m1]))
    have w2 := vne (hver b2 (by simp [m2]))
    have u1 : ¬ aid = b1 := fun h => (List.nodup_cons.1 hnd).1 (h ▸ m1)
    have u2 : ¬ aid = b2 := fun h => (List.nodup_cons.1 hnd).1 (h ▸ m2)
    have hne' : ¬ b2 = b1 := fun h => hne h.symm
    have hd : inB ev.g_Num 0 3 = true := inB_of (by rcases h2.num with h | h <;> omega)
    have ho := opp_in hd
    have d0 := (inB_true hd).1
    have o0 := (inB_true ho).1
    have b41 := (hok.form _ (List.getElem_mem h2.at_)).bound
    have b42 := (hok.form _ (List.getElem_mem h2.next)).bound
    have q1 := bool_get b41 hd
    have q2 := bool_get b42 ho
    have l1 : ev.g_Num < ((cells[idxN cells ev.g_At]'h2.at_).g_Bound.length : Int) := by have := (inB_true hd).2; omega
    have l2 : oppI ev.g_Num < ((cells[nextI cells ev]'h2.next).g_Bound.length : Int) := by have := (inB_true ho).2; omega
    have i1 : (idxN cells ev.g_At : Int) < (cells.length : Int) := by have := h2.at_; omega
    have i2 : (nextI cells ev : Int) < (cells.length : Int) := by have := h2.next; omega
    generalize hC1 : cells[idxN cells ev.g_At]'h2.at_ = C1 at *
    generalize hC2 : cells[nextI cells ev]'h2.next = C2 at *
    (repeat (first | ((repeat (revert hN; revert N; apply Pn.out)); refine wk (tw @hs (tw @hg (tw (vne hv) (tw (vne hav) (tw @hk (tw @hk2 (tw @hidx (tw @hnx (tw @r1 (tw @r2 (tw @g1 (tw @g2 (tw @w1 (tw @w2 (tw @u1 (tw @u2 (tw @hne (tw @hne' (tw @d0 (tw @o0 (tw @l1 (tw @l2 (tw @i1 (tw @i2 (tw @q1 (tw @q2 (tw @eBool.eq_1 (tw @eEvent.eq_1 @ePoint.eq_1)))))))))))))))))))))))))))) ?_; (repeat (refine Pn.mk ?_; intro N hN))) | ((try apply Or.inl); refine ⟨_, Ret.x (Opposite_v ev.g_Num) _, ?_⟩; refine hN _ _ ?_; clear hN N)))
    have e1 : ∀ (l : List Bool) n, (l.map eBool).set n [AV.bool true] = (l.set n true).map eBool := fun l n => set_map eBool l n true
    have k1 : ∀ R0 : Row, RowsN CellO (setR (setR σ.get ⟨46000000, σ.next⟩ R0) b1 ⟨true, 1, (C1.g_Bound.map eBool).set ev.g_Num.toNat [AV.bool true]⟩) rows (cells.set (idxN cells ev.g_At) (bindC C1 ev.g_Num)) is := fun R0 =>
      t1 _ (C1.g_Bound.set ev.g_Num.toNat true) (sd @e1) (by simp) fun j hj hjn => by simp only [go_sem, ↓reduceIte, Nat.reduceEqDiff, Nat.reduceAdd, Nat.reduceSub, Nat.reduceLeDiff, reduceCtorEq, vne (hver j (List.mem_cons_of_mem _ hj)), hjn]
    have k2 : ∀ R0 : Row, RowsN CellO (setR (setR (setR σ.get ⟨46000000, σ.next⟩ R0) b1 ⟨true, 1, (C1.g_Bound.map eBool).set ev.g_Num.toNat [AV.bool true]⟩) b2 ⟨true, 1, (C2.g_Bound.map eBool).set (oppI ev.g_Num).toNat [AV.bool true]⟩) rows (bindL cells ev) is := fun R0 => by
      have hgs : (cells.set (idxN cells ev.g_At) (bindC C1 ev.g_Num))[nextI cells ev]'(by simpa using h2.next) = C2 := by
        rw [List.getElem_set_ne (fun h => h2.ne h.symm)]; exact hC2
      obtain ⟨a3, b3, f3, r3, _, g3, t3⟩ := at_bound (k1 R0) hnd2 (nextI cells ev) (by simpa using h2.next) (by rw [hgs]; exact hp2)
      rw [hgs] at r3 t3
      rw [r2] at r3
      simp only [Option.some.injEq, List.cons.injEq, AV.own.injEq] at r3
      obtain ⟨_, _, _, rfl, ⟨rfl, _⟩, rfl, _⟩ := r3
      have h := t3 (setR (setR (setR σ.get ⟨46000000, σ.next⟩ R0) b1 ⟨true, 1, (C1.g_Bound.map eBool).set ev.g_Num.toNat [AV.bool true]⟩) b2 ⟨true, 1, (C2.g_Bound.map eBool).set (oppI ev.g_Num).toNat [AV.bool true]⟩) (C2.g_Bound.set (oppI ev.g_Num).toNat true) (sd @e1) (by simp) fun j hj hjn => by simp only [go_sem, ↓reduceIte, Nat.reduceEqDiff, Nat.reduceAdd, Nat.reduceSub, Nat.reduceLeDiff, reduceCtorEq, hjn]
      unfold bindL
      rw [cellAt_eq h2.at_, cellAt_eq h2.next, hC1, hC2]
      exact h
    refine retO (.inl rfl) (by simp only [vresL, vres1, go_sem, ↓reduceIte, Nat.reduceEqDiff, Nat.reduceAdd, Nat.reduceSub, Nat.reduceLeDiff, reduceCtorEq]; rfl) ⟨_, aid :: is, by rw [hfe]; rfl, ⟨aid, rows, is, by rw [hfe, if_neg (by simp), hdo]; simp [bindL], sd (tw @hg (tw (vne hav) (tw @u1 @u2))), by rw [hfe, if_neg (by simp), hdo]; exact k2 _, rfl⟩, hnd, fun i hi => Nat.lt_of_lt_of_le (hver i hi) (by (try dsimp only); omega), fun i hi => .inl hi, by (try dsimp only); omega, fun j hj hjn => ?_⟩
    have z1 : ¬ j = b1 := fun h => hjn (by rw [h]; simp [m1])
    have z2 : ¬ j = b2 := fun h => hjn (by rw [h]; simp [m2])
    simp only [go_sem, ↓reduceIte, Nat.reduceEqDiff, Nat.reduceAdd, Nat.reduceSub, Nat.reduceLeDiff, reduceCtorEq, vne hj, z1, z2]
  have hk3 : ev.g_Kind = 3 := by rcases can_kind hc with h | h | h <;> omega
  have h3 := can3 hc hk3
  have hfe : fullE cells ev = false := by simp [fullE, hk]
  have hdo : doE s cells ev = cells.set (idxN cells ev.g_At) (fireC s (cellAt cells (idxN cells ev.g_At)) ev.g_Num) := by simp [doE, hk3]
  have hidx : idxI cells ev.g_At = (idxN cells ev.g_At : Int) := if_pos h3.at_
  have hnd2 := (List.nodup_cons.1 hnd).2
  have hfm := hok.form _ (List.getElem_mem h3.at_)
  have hn1 := h3.n1
  have hn0 := h3.n0
  rw [cellAt_eq h3.at_] at hn1 hdo
  have hp1 : 0 < (cells[idxN cells ev.g_At]'h3.at_).g_Fired.length := by omega
  have hp2 : 0 < (cells[idxN cells ev.g_At]'h3.at_).g_On.length := by rw [hfm.on]; omega
  obtain ⟨a1, b1, f1, r1, m1, g1, t1⟩ := at_fired hR hnd2 (idxN cells ev.g_At) h3.at_ hp1
  obtain ⟨a2, b2, f2, r2, m2, g2, t2⟩ := at_on hR hnd2 (idxN cells ev.g_At) h3.at_ hp2
  have r2' := r2
  rw [r1] at r2'
  simp only [Option.some.injEq, List.cons.injEq] at r2'
  obtain ⟨_, _, _, rfl, rfl, rfl, _⟩ := r2'
  clear r2
  have hne := on_ne hR hnd2 h3.at_ hp1 r1
  have hne' : ¬ f1 = a2 := fun h => hne h.symm
  have u1 : ¬ aid = f1 := fun h => (List.nodup_cons.1 hnd).1 (h ▸ m1)
  have u2 : ¬ aid = a2 := fun h => (List.nodup_cons.1 hnd).1 (h ▸ m2)
  have w1 := vne (hver f1 (List.mem_cons_of_mem _ m1))
  have w2 := vne (hver a2 (List.mem_cons_of_mem _ m2))
  have x1 : ¬ sid = f1 := fun h => hsid (h ▸ List.mem_cons_of_mem _ m1)
  have i1 : (idxN cells ev.g_At : Int) < (cells.length : Int) := by have := h3.at_; omega
  have q9 : (cells[idxN cells ev.g_At]'h3.at_).g_Fired.length = (tileAt s (cells[idxN cells ev.g_At]'h3.at_).g_Tile).g_Fires.length := hfm.fired
  have q2 := hfm.tile
  have ft := hok.set.form _ (tile_mem hfm.t0 hfm.t1)
  have q3 := hfm.t0
  have b4 := hfm.on
  generalize hC : cells[idxN cells ev.g_At]'h3.at_ = C at *
  have hm2 : ev.g_Num.toNat < (tileAt s C.g_Tile).g_Fires.length := by omega
  have g3 : ((tileAt s C.g_Tile).g_Fires.map eFire)[ev.g_Num.toNat]? = some (eFire (fireAt (tileAt s C.g_Tile) ev.g_Num.toNat)) := get_map eFire hm2
  have hfr := (ft.fires (fireAt (tileAt s C.g_Tile) ev.g_Num.toNat) (by
        unfold fireAt
        rw [List.getD_eq_getElem?_getD, List.getElem?_eq_getElem hm2]
        exact List.getElem_mem hm2)).2
  have q1 : (C.g_Fired.map eBool)[ev.g_Num.toNat]? = some (eBool (bAt C.g_Fired ev.g_Num)) := get_map eBool (by omega)
  have q4 : (C.g_On.map eBool)[(fireAt (tileAt s C.g_Tile) ev.g_Num.toNat).g_To.toNat]? = some (eBool (bAt C.g_On (fireAt (tileAt s C.g_Tile) ev.g_Num.toNat).g_To)) := bool_get b4 hfr
  have d0 := (inB_true hfr).1
  have d1 : (fireAt (tileAt s C.g_Tile) ev.g_Num.toNat).g_To < (C.g_On.length : Int) := by have := (inB_true hfr).2; omega
  (try ((repeat (revert hN; revert N; apply Pn.out)); refine wk (tw @hs (tw @hg (tw (vne hv) (tw (vne hav) (tw @hk (tw @hk3 (tw @hidx (tw @r1 (tw @g1 (tw @g2 (tw @g3 (tw @w1 (tw @w2 (tw @u1 (tw @u2 (tw @x1 (tw @hne (tw @hne' (tw @hn0 (tw @hn1 (tw @d0 (tw @d1 (tw @i1 (tw @q1 (tw @q2 (tw @q3 (tw @q4 (tw @eBool.eq_1 (tw @eSet.eq_1 (tw @eTile.eq_1 (tw @eFire.eq_1 (tw @eEvent.eq_1 @ePoint.eq_1)))))))))))))))))))))))))))))))) ?_; (repeat (refine Pn.mk ?_; intro N hN))))
  have e1 : ∀ (l : List Bool) n, (l.map eBool).set n [AV.bool true] = (l.set n true).map eBool := fun l n => set_map eBool l n true
  have k1 : ∀ R0 : Row, RowsN CellO (setR (setR σ.get ⟨46000000, σ.next⟩ R0) f1 ⟨true, 1, (C.g_Fired.map eBool).set ev.g_Num.toNat [AV.bool true]⟩) rows (cells.set (idxN cells ev.g_At) { C with g_Fired := C.g_Fired.set ev.g_Num.toNat true }) is := fun R0 =>
    t1 _ (C.g_Fired.set ev.g_Num.toNat true) (sd @e1) (by simp) fun j hj hjn => by simp only [go_sem, ↓reduceIte, Nat.reduceEqDiff, Nat.reduceAdd, Nat.reduceSub, Nat.reduceLeDiff, reduceCtorEq, vne (hver j (List.mem_cons_of_mem _ hj)), hjn]
  have k2 : ∀ R0 : Row, RowsN CellO (setR (setR (setR σ.get ⟨46000000, σ.next⟩ R0) f1 ⟨true, 1, (C.g_Fired.map eBool).set ev.g_Num.toNat [AV.bool true]⟩) a2 ⟨true, 1, (C.g_On.map eBool).set (fireAt (tileAt s C.g_Tile) ev.g_Num.toNat).g_To.toNat [AV.bool true]⟩) rows (cells.set (idxN cells ev.g_At) (fireC s C ev.g_Num)) is := fun R0 => by
    obtain ⟨a3, b3, f3, r3, _, g3, t3⟩ := at_on (k1 R0) hnd2 (idxN cells ev.g_At) (by simpa using h3.at_) (by simpa using hp2)
    simp only [List.getElem_set_self] at r3 t3
    rw [r1] at r3
    simp only [Option.some.injEq, List.cons.injEq, AV.own.injEq] at r3
    obtain ⟨_, _, _, ⟨rfl, _⟩, rfl, rfl, _⟩ := r3
    have h := t3 (setR (setR (setR σ.get ⟨46000000, σ.next⟩ R0) f1 ⟨true, 1, (C.g_Fired.map eBool).set ev.g_Num.toNat [AV.bool true]⟩) a2 ⟨true, 1, (C.g_On.map eBool).set (fireAt (tileAt s C.g_Tile) ev.g_Num.toNat).g_To.toNat [AV.bool true]⟩) (C.g_On.set (fireAt (tileAt s C.g_Tile) ev.g_Num.toNat).g_To.toNat true) (sd @e1) (by simp) fun j hj hjn => by simp only [go_sem, ↓reduceIte, Nat.reduceEqDiff, Nat.reduceAdd, Nat.reduceSub, Nat.reduceLeDiff, reduceCtorEq, hjn]
    rw [List.set_set] at h
    exact h
  refine retO (.inl rfl) (by simp only [vresL, vres1, go_sem, ↓reduceIte, Nat.reduceEqDiff, Nat.reduceAdd, Nat.reduceSub, Nat.reduceLeDiff, reduceCtorEq]; rfl) ⟨_, aid :: is, by rw [hfe]; rfl, ⟨aid, rows, is, by rw [hfe, if_neg (by simp), hdo]; simp, sd (tw @hg (tw (vne hav) (tw @u1 @u2))), by rw [hfe, if_neg (by simp), hdo]; exact k2 _, rfl⟩, hnd, fun i hi => Nat.lt_of_lt_of_le (hver i hi) (by (try dsimp only); omega), fun i hi => .inl hi, by (try dsimp only); omega, fun j hj hjn => ?_⟩
  have z1 : ¬ j = f1 := fun h => hjn (h ▸ List.mem_cons_of_mem _ m1)
  have z2 : ¬ j = a2 := fun h => hjn (h ▸ List.mem_cons_of_mem _ m2)
  simp only [go_sem, ↓reduceIte, Nat.reduceEqDiff, Nat.reduceAdd, Nat.reduceSub, Nat.reduceLeDiff, reduceCtorEq, vne hj, z1, z2]



def schB (sch : List Int) : Bool := decide (sch.length ≤ 200) && sch.all fun n => inB n 0 1000
theorem schB_iff {sch : List Int} : schB sch = true ↔ sch.length ≤ 200 ∧ ∀ k (hk : k < sch.length), inB sch[k] 0 1000 = true := by
  rw [schB, Bool.and_eq_true, decide_eq_true_eq, List.all_eq_true]
  refine and_congr_right fun _ => ⟨fun h k hk => h _ (List.getElem_mem hk), fun h x hx => ?_⟩
  obtain ⟨k, hk, rfl⟩ := List.mem_iff_getElem.1 hx
  exact h k hk

def schAt (sch : List Int) (n : Nat) : Int := sch.getD (n % sch.length) 0
theorem sch_ok {sch : List Int} (h : schB sch = true) (hp : 0 < sch.length) (n : Nat) : n % sch.length < sch.length ∧ 0 ≤ schAt sch n ∧ schAt sch n ≤ 1000 := by
  have hl := Nat.mod_lt n hp
  have h1 : inB (schAt sch n) 0 1000 = true := by
    rw [schAt, List.getD_eq_getElem?_getD, List.getElem?_eq_getElem hl]; exact (schB_iff.1 h).2 _ hl
  have := inB_true h1
  exact ⟨hl, this.1, this.2⟩
/-- The option that a schedule selects. -/
def selN (sch : List Int) (n len : Nat) : Nat := if sch.length = 0 then 0 else (schAt sch n % len).toNat
theorem selN_lt (sch : List Int) (n : Nat) {len : Nat} (h : 0 < len) : selN sch n len < len := by
  unfold selN; split
  · exact h
  · have := Int.emod_nonneg (schAt sch n) (show (len : Int) ≠ 0 by omega)
    have := Int.emod_lt_of_pos (schAt sch n) (show (0 : Int) < len by omega)
    omega

set_option maxRecDepth 100000 in
set_option maxHeartbeats 4000000 in
theorem l08Schedule_v (sch : List Int) : RetS Tryz.prog 52 [.sl (sch.map eInt)] (.bool (schB sch)) := by
  refine RetS.body cfE rfl fun hl n0 => ?_
  clear hl
  by_cases h2 : (200 : Int) < (sch.length : Int)
  · (try ((repeat (revert hN; revert N; apply Pn.out)); refine wk @h2 ?_; (repeat (refine Pn.mk ?_; intro N hN))))
    exact ret1Sb (.inl rfl) (by simp only [go_sem, ↓reduceIte, Nat.reduceEqDiff, Nat.reduceAdd, Nat.reduceSub, Nat.reduceLeDiff, reduceCtorEq]; rfl) (by rw [Bool.eq_iff_iff, schB_iff]; simp; omega)
  · (try ((repeat (revert hN; revert N; apply Pn.out)); refine wk @h2 ?_; (repeat (refine Pn.mk ?_; intro N hN))))
    refine w_loopF (fun n env st => ∃ k : Nat, n = (sch.length) - k ∧ k ≤ (sch.length) ∧ env 3 = .int .i64 (k : Int) ∧ (∀ j : Nat, j < k → ∀ hj : j < sch.length, inB sch[j] 0 1000 = true)) (sch.length) ⟨0, by omega, by omega, by (try simp only [go_sem, ↓reduceIte, Nat.reduceEqDiff, Nat.reduceAdd, Nat.reduceSub, Nat.reduceLeDiff, reduceCtorEq]); try rfl, fun _ h => absurd h (Nat.not_lt_zero _)⟩ ?_
    rintro n_a env_a st_a ⟨k, rfl, ale, a3, aA0⟩ afr
    have a0 := afr 0 (by kernel_rfl)
    simp only [go_sem, ↓reduceIte, Nat.reduceEqDiff, Nat.reduceAdd, Nat.reduceSub, Nat.reduceLeDiff, reduceCtorEq] at a0
    clear afr
    by_cases hk : (k : Int) < (sch.length : Int)
    · have nexta : ∀ {e : Env}, (e 3 = .int .i64 (IntKind.i64.wrap ((k : Int) + 1))) → (∀ hj : k < sch.length, inB sch[k] 0 1000 = true) → ∃ m0, m0 < (sch.length) - k ∧ ∃ k : Nat, m0 = (sch.length) - k ∧ k ≤ (sch.length) ∧ e 3 = .int .i64 (k : Int) ∧ (∀ j : Nat, j < k → ∀ hj : j < sch.length, inB sch[j] 0 1000 = true) := fun x1 x2 => ⟨_, by omega, k + 1, rfl, by omega, (by rw [x1, wrap_succ2 (by omega)]), (all_succ aA0 x2)⟩
      have hi : k < sch.length := by omega
      have hg : (sch.map eInt)[k]? = some (eInt sch[k]) := by simp [hi]
      cases hb : inB sch[k] 0 1000
      · have hf : schB sch = false := by
          rw [Bool.eq_false_iff]; intro h; rw [(schB_iff.1 h).2 k hi] at hb; cases hb
        generalize sch[k] = x at *
        (repeat (first | ((repeat (revert hN; revert N; apply Pn.out)); refine wk (tw @a3 (tw @a0 (tw @hk (tw @hg (tw @hb @eInt.eq_1))))) ?_; (repeat (refine Pn.mk ?_; intro N hN))) | ((try apply Or.inl); refine ⟨_, Ret.x (l00In_v x 0 1000) _, ?_⟩; refine hN _ _ ?_; clear hN N)))
        exact ret1Sb (.inl rfl) (sd @Nat.zero_add) hf.symm
      · have hb0 := hb
        generalize sch[k] = x at hb hg
        (repeat (first | ((repeat (revert hN; revert N; apply Pn.out)); refine wk (tw @a3 (tw @a0 (tw @hk (tw @hg (tw @hb @eInt.eq_1))))) ?_; (repeat (refine Pn.mk ?_; intro N hN))) | ((try apply Or.inl); refine ⟨_, Ret.x (l00In_v x 0 1000) _, ?_⟩; refine hN _ _ ?_; clear hN N)))
        exact nexta (sd (tw @a3 @a0)) (fun _ => hb0)
    · (try ((repeat (revert hN; revert N; apply Pn.out)); refine wk (tw @a3 (tw @a0 @hk)) ?_; (repeat (refine Pn.mk ?_; intro N hN))))
      exact ret1Sb (.inl rfl) (sd @Nat.zero_add) (Eq.symm (schB_iff.2 ⟨by omega, fun j hj => aA0 j (by omega) hj⟩))

end Go.Proofs.YtpbniieiinhliaaGreat.V
