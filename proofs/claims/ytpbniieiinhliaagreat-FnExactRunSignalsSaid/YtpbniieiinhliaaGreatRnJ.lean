/- The reference's set without signals. -/
import Derived.Test.YtpbniieiinhliaaGreatRnH
import Derived.Test.YtpbniieiinhliaaGreatRnI
set_option linter.unusedVariables false
set_option linter.unusedSimpArgs false
namespace Go.Proofs.YtpbniieiinhliaaGreat.V
open Go.RowKit
attribute [local irreducible] wpv wpOps PCx Call
attribute [local go_sem] wantedV vop qop eop vis evO upd envOf K.av boxOf AV.cells AV.cell rowOf rowsOf part ld rowAt setR killR ibin vbin vsh vclear vsbin sbin eq1 eqL xorB vnil vnilS vnilF hiOf loOf vslice vsliceS viaddr vidxS vidxA vlen vnot vneg vconv vconvS vpick vchk vfield vextract vlenS fillV vmk rowsIn putCs vstore vappend seqQ blockQ most AV.undef callW locP locQ List.getD_cons_zero List.getD_cons_succ List.getD_nil List.all_cons List.all_nil Bool.and_true Bool.true_and Bool.and_self Bool.not_true Bool.not_false Option.map_some Option.map_none Option.bind_some Option.bind_none List.length_cons List.length_nil List.take_succ_cons List.take_zero List.take_nil List.drop_succ_cons List.drop_zero List.drop_nil List.head?_cons List.map_cons List.map_nil List.getElem?_cons_zero List.getElem?_cons_succ List.cons_append List.nil_append List.append_nil List.length_map List.set_cons_zero List.set_cons_succ Nat.reduceMul eq_self Int.toNat_natCast Int.natCast_nonneg and_self true_and and_true decide_true decide_false Bool.false_eq_true Nat.zero_add Nat.add_zero List.contains_cons List.contains_nil Bool.or_false Bool.false_or beq_self_eq_true Nat.reduceBEq ne_eq not_true_eq_false not_false_eq_true Id.mk.injEq false_and and_false Nat.reduceLT Int.reduceLE Int.reduceLT Int.reduceToNat Int.reduceNeg Int.reduceAdd Nat.le_refl List.length_append beq_true beq_false Bool.not_eq_eq_eq_not or_false false_or rw_ fzRow_cons fzRow_nil fz_int fz_bool fz_str fz_sl fz_nils fz_agg fz_iptr fz_ptrE fz_fn

def tN (s : D_SignalSet) (k : Nat) : D_SignalTile := s.g_Tiles.getD k noTile
theorem tN_mem {s : D_SignalSet} {k : Nat} (h : k < s.g_Tiles.length) : tN s k ∈ s.g_Tiles := by
  unfold tN
  rw [List.getD_eq_getElem?_getD, List.getElem?_eq_getElem h]
  exact List.getElem_mem h
theorem take_map {α β : Type} (e : α → β) {l : List α} {k : Nat} {d : α} (h : k < l.length) : (l.take k).map e ++ [e (l.getD k d)] = (l.take (k + 1)).map e := by
  rw [List.take_succ_eq_append_getElem h, List.map_append]; simp [List.getD_eq_getElem?_getD, h]
def eXT (t : D_SignalTile) : List AV := [.str t.g_Name, .sl (t.g_Sides.map eInt)]
def xtiles (s : D_SignalSet) : List XTile := s.g_Tiles.map fun t => ⟨t.g_Name, t.g_Sides⟩
theorem xtiles_e (s : D_SignalSet) : (xtiles s).map eXTile = s.g_Tiles.map eXT := by simp [xtiles, eXTile, eXT, Function.comp_def]
/-- A slice that is nil when it has no elements. -/
def slN (rows : List (List AV)) : AV := if rows = [] then .nils else .sl rows
structure SmallSet (s : D_SignalSet) : Prop where
  g : s.g_Glues.length ≤ 1048576
  t : s.g_Tiles.length ≤ 1048576
  s : ∀ t ∈ s.g_Tiles, t.g_Sides.length ≤ 1048576

set_option maxRecDepth 100000 in
set_option maxHeartbeats 4000000 in
theorem l00Own_v (l : List Int) (h : l.length ≤ 1048576) : RetS Tryz.prog 142 [.sl (l.map eInt)] (.sl (l.map eInt)) := by
  refine RetS.body cfE rfl fun hl n0 => ?_
  have h1 : l.length ≤ 16777216 := by omega
  have h2 : (l.map eInt).all (fun c => c.length == 1 && c.all AV.cell) = true := all_map fun x => by simp [eInt, AV.cell]
  clear hl
  (try ((repeat (revert hN; revert N; apply Pn.out)); refine wk (tw @h1 @h2) ?_; (repeat (refine Pn.mk ?_; intro N hN))))
  refine ret1S (.inl rfl) (r0 := .own ⟨142001002, n0 + 1⟩ 0 l.length) (sd @Nat.zero_add) (fzS_own_map (e := eInt) (sz := 1) (sd @Nat.zero_add) rfl fun x => by simp [eInt, fzSRow_cons, fzSRow_nil, fzS_int])

set_option maxRecDepth 100000 in
set_option maxHeartbeats 4000000 in
theorem l31Plain_v (s : D_SignalSet) (h : SmallSet s) : Ret Tryz.prog 127 [.iptr (eSet s)] (.agg [.sl (s.g_Glues.map eGlue), slN (s.g_Tiles.map eXT)]) := by
  refine Ret.body cfE rfl fun hl σ => ?_
  have h1 : s.g_Glues.length ≤ 16777216 := by have := h.g; omega
  have h2 : (s.g_Glues.map eGlue).all (fun c => c.length == 2 && c.all AV.cell) = true := all_map fun x => by simp [eGlue, AV.cell]
  have hn := h.t
  clear hl
  (try ((repeat (revert hN; revert N; apply Pn.out)); refine wk (tw @h1 (tw @h2 @eSet.eq_1)) ?_; (repeat (refine Pn.mk ?_; intro N hN))))
  refine w_loopF (fun n env st => ∃ k : Nat, n = (s.g_Tiles.length) - k ∧ k ≤ (s.g_Tiles.length) ∧ env 4 = .int .i64 (k : Int) ∧ st.get ⟨127000000, σ.next⟩ = some ⟨true, 2, [[.nils, .nils]]⟩ ∧ st.get ⟨127001005, σ.next + 1⟩ = some ⟨true, 2, s.g_Glues.map eGlue⟩ ∧ ((k = 0 ∧ st.get ⟨127001007, σ.next + 1⟩ = some ⟨true, 2, [[.own ⟨127001005, σ.next + 1⟩ 0 s.g_Glues.length, .nils]]⟩) ∨ (∃ v, 0 < k ∧ st.get ⟨127001007, σ.next + 1⟩ = some ⟨true, 2, [[.own ⟨127001005, σ.next + 1⟩ 0 s.g_Glues.length, .own ⟨127005021, v⟩ 0 k]]⟩ ∧ st.get ⟨127005021, v⟩ = some ⟨true, 2, (s.g_Tiles.take k).map eXT⟩))) (s.g_Tiles.length) ⟨0, by omega, by omega, by (try simp only [go_sem, ↓reduceIte, Nat.reduceEqDiff, Nat.reduceAdd, Nat.reduceSub, Nat.reduceLeDiff, reduceCtorEq, eSet]); try rfl, by (try simp only [go_sem, ↓reduceIte, Nat.reduceEqDiff, Nat.reduceAdd, Nat.reduceSub, Nat.reduceLeDiff, reduceCtorEq, eSet]); try rfl, by (try simp only [go_sem, ↓reduceIte, Nat.reduceEqDiff, Nat.reduceAdd, Nat.reduceSub, Nat.reduceLeDiff, reduceCtorEq, eSet]); try rfl, .inl ⟨rfl, sd @Nat.zero_add⟩⟩ ?_
  rintro n_a env_a st_a ⟨k, rfl, ale, a4, ag0, ag1, aI0⟩ afr
  have a0 := afr 0 (by kernel_rfl); have a2 := afr 2 (by kernel_rfl); have a3 := afr 3 (by kernel_rfl)
  simp only [go_sem, ↓reduceIte, Nat.reduceEqDiff, Nat.reduceAdd, Nat.reduceSub, Nat.reduceLeDiff, reduceCtorEq, eSet] at a0 a2 a3
  clear afr
  by_cases hk : (k : Int) < (s.g_Tiles.length : Int)
  · have nexta : ∀ {e : Env} {gg : Rows}, (e 4 = .int .i64 (IntKind.i64.wrap ((k : Int) + 1))) → (gg ⟨127000000, σ.next⟩ = some ⟨true, 2, [[.nils, .nils]]⟩) → (gg ⟨127001005, σ.next + 1⟩ = some ⟨true, 2, s.g_Glues.map eGlue⟩) → (((k + 1) = 0 ∧ gg ⟨127001007, σ.next + 1⟩ = some ⟨true, 2, [[.own ⟨127001005, σ.next + 1⟩ 0 s.g_Glues.length, .nils]]⟩) ∨ (∃ v, 0 < (k + 1) ∧ gg ⟨127001007, σ.next + 1⟩ = some ⟨true, 2, [[.own ⟨127001005, σ.next + 1⟩ 0 s.g_Glues.length, .own ⟨127005021, v⟩ 0 (k + 1)]]⟩ ∧ gg ⟨127005021, v⟩ = some ⟨true, 2, (s.g_Tiles.take (k + 1)).map eXT⟩)) → ∃ m0, m0 < (s.g_Tiles.length) - k ∧ ∃ k : Nat, m0 = (s.g_Tiles.length) - k ∧ k ≤ (s.g_Tiles.length) ∧ e 4 = .int .i64 (k : Int) ∧ gg ⟨127000000, σ.next⟩ = some ⟨true, 2, [[.nils, .nils]]⟩ ∧ gg ⟨127001005, σ.next + 1⟩ = some ⟨true, 2, s.g_Glues.map eGlue⟩ ∧ ((k = 0 ∧ gg ⟨127001007, σ.next + 1⟩ = some ⟨true, 2, [[.own ⟨127001005, σ.next + 1⟩ 0 s.g_Glues.length, .nils]]⟩) ∨ (∃ v, 0 < k ∧ gg ⟨127001007, σ.next + 1⟩ = some ⟨true, 2, [[.own ⟨127001005, σ.next + 1⟩ 0 s.g_Glues.length, .own ⟨127005021, v⟩ 0 k]]⟩ ∧ gg ⟨127005021, v⟩ = some ⟨true, 2, (s.g_Tiles.take k).map eXT⟩)) := fun x1 x2 x3 x4 => ⟨_, by omega, k + 1, rfl, by omega, (by rw [x1, wrap_succ2 (by omega)]), x2, x3, x4⟩
    have hkn : k < s.g_Tiles.length := by omega
    have hgk : (s.g_Tiles.map eTile)[k]? = some (eTile (tN s k)) := get_map eTile hkn
    have hb := h.s _ (tN_mem hkn)
    have ht := take_map eXT (d := noTile) hkn
    rw [show s.g_Tiles.getD k noTile = tN s k from rfl, eXT] at ht
    have hm1 : k + 1 ≤ 16777216 := by omega
    rcases aI0 with ⟨rfl, g1⟩ | ⟨v, h0, g1, g2⟩
    · simp only [List.take_zero, List.map_nil, List.nil_append, Nat.zero_add] at ht
      (repeat (first | ((repeat (revert hN; revert N; apply Pn.out)); refine wk (tw @a4 (tw @ag0 (tw @ag1 (tw @a0 (tw @a2 (tw @a3 (tw @g1 (tw @hk (tw @hgk @eTile.eq_1))))))))) ?_; (repeat (refine Pn.mk ?_; intro N hN))) | ((try apply Or.inl); refine ⟨_, RetS.x (l00Own_v (tN s 0).g_Sides hb) (sd (tw @a4 (tw @ag0 (tw @ag1 (tw @a0 (tw @a2 (tw @a3 (tw @g1 (tw @hk (tw @hgk @eTile.eq_1)))))))))), ?_⟩; refine hN _ _ ?_; clear hN N)))
      refine nexta ?_ ?_ ?_ (.inr ⟨st_a.next + 1, by omega, sd @Nat.zero_add, sd @ht⟩)
      all_goals simp only [go_sem, ↓reduceIte, Nat.reduceEqDiff, Nat.reduceAdd, Nat.reduceSub, Nat.reduceLeDiff, reduceCtorEq, a4, ag0, ag1, a0, a2, a3]
    · have hlen : (s.g_Tiles.take k).length = k := by simp; omega
      (repeat (first | ((repeat (revert hN; revert N; apply Pn.out)); refine wk (tw @a4 (tw @ag0 (tw @ag1 (tw @a0 (tw @a2 (tw @a3 (tw @g1 (tw @g2 (tw @hk (tw @hgk (tw @hm1 (tw @hlen @eTile.eq_1)))))))))))) ?_; (repeat (refine Pn.mk ?_; intro N hN))) | ((try apply Or.inl); refine ⟨_, RetS.x (l00Own_v (tN s k).g_Sides hb) (sd (tw @a4 (tw @ag0 (tw @ag1 (tw @a0 (tw @a2 (tw @a3 (tw @g1 (tw @g2 (tw @hk (tw @hgk (tw @hm1 (tw @hlen @eTile.eq_1))))))))))))), ?_⟩; refine hN _ _ ?_; clear hN N)))
      refine nexta ?_ ?_ ?_ (.inr ⟨st_a.next + 1, by omega, sd @Nat.zero_add, sd @ht⟩)
      all_goals simp only [go_sem, ↓reduceIte, Nat.reduceEqDiff, Nat.reduceAdd, Nat.reduceSub, Nat.reduceLeDiff, reduceCtorEq, a4, ag0, ag1, a0, a2, a3]
  · have hkn : k = s.g_Tiles.length := by omega
    subst hkn
    have f1 : ∀ (g : Rows) (x : D_Glue), fzRow g 4 (eGlue x) = some (eGlue x) := fun g x => by simp [eGlue, fzRow_cons, fzRow_nil, fz_str, fz_int]
    have f2 : ∀ (g : Rows) (x : D_SignalTile), fzRow g 4 (eXT x) = some (eXT x) := fun g x => by simp [eXT, fzRow_cons, fzRow_nil, fz_str, fz_sl]
    rcases aI0 with ⟨h0, g1⟩ | ⟨v, h0, g1, g2⟩
    · have hn0 : s.g_Tiles = [] := List.eq_nil_of_length_eq_zero h0
      (try ((repeat (revert hN; revert N; apply Pn.out)); refine wk (tw @a4 (tw @ag0 (tw @ag1 (tw @a0 (tw @a2 (tw @a3 (tw @g1 @hk))))))) ?_; (repeat (refine Pn.mk ?_; intro N hN))))
      refine retG (vs := [.agg [.own ⟨127001005, σ.next + 1⟩ 0 s.g_Glues.length, .nils]]) (.inl rfl) (by simp only [vresL, vres1, go_sem, ↓reduceIte, Nat.reduceEqDiff, Nat.reduceAdd, Nat.reduceSub, Nat.reduceLeDiff, reduceCtorEq, a4, ag0, ag1, a0, a2, a3]) ?_
      rw [tupOf, fz_agg, fzRow_cons, fz_own_map (e := eGlue) (l := s.g_Glues) (sz := 2) (sd (tw @a4 (tw @ag0 (tw @ag1 (tw @a0 (tw @a2 @a3)))))) rfl (f1 _), fzRow_cons, fz_nils, fzRow_nil, hn0]
      simp [slN]
    · rw [List.take_length] at g2
      (try ((repeat (revert hN; revert N; apply Pn.out)); refine wk (tw @a4 (tw @ag0 (tw @ag1 (tw @a0 (tw @a2 (tw @a3 (tw @g1 (tw @g2 @hk)))))))) ?_; (repeat (refine Pn.mk ?_; intro N hN))))
      refine retG (vs := [.agg [.own ⟨127001005, σ.next + 1⟩ 0 s.g_Glues.length, .own ⟨127005021, v⟩ 0 s.g_Tiles.length]]) (.inl rfl) (by simp only [vresL, vres1, go_sem, ↓reduceIte, Nat.reduceEqDiff, Nat.reduceAdd, Nat.reduceSub, Nat.reduceLeDiff, reduceCtorEq, a4, ag0, ag1, a0, a2, a3]) ?_
      rw [tupOf, fz_agg, fzRow_cons, fz_own_map (e := eGlue) (l := s.g_Glues) (sz := 2) (sd (tw @a4 (tw @ag0 (tw @ag1 (tw @a0 (tw @a2 @a3)))))) rfl (f1 _), fzRow_cons, fz_own_map (e := eXT) (l := s.g_Tiles) (sz := 2) (sd (tw @a4 (tw @ag0 (tw @ag1 (tw @a0 (tw @a2 (tw @a3 @g2))))))) rfl (f2 _), fzRow_nil]
      have hne : ¬ (s.g_Tiles.map eXT = []) := fun hc => by simp at hc; rw [hc] at h0; simp at h0
      rw [slN, if_neg hne]
      rfl


theorem sIsName_v (s : ByteArray) (h : s.size ≤ 9223372036854775807) : Ret Tryz.prog 143 [.str s] (.bool (nameB s)) :=
  ret_of_below (args1 (fun _ _ _ _ => rep_str)) (fun _ _ _ => .imm _ _ (.bool _)) (fun g => fz_bool g 5 _) (fun w => sIsName_any w s h)
set_option maxRecDepth 100000 in
set_option maxHeartbeats 4000000 in
theorem l02Glue_v (gs : List D_Glue) (tl : AV) (nm : ByteArray) : RetS Tryz.prog 144 [.iptr [.sl (gs.map eGlue), tl], .str nm] (.int .i64 (hitI (nameIdx D_Glue.g_Name gs nm) gs.length (nameIdx D_Glue.g_Name gs nm + 1) 0)) := by
  refine RetS.body cfE rfl fun hl n0 => ?_
  have hn : gs.length ≤ 9223372036854775807 := by simpa using ((hl (.iptr [.sl (gs.map eGlue), tl]) (by simp)).iptrc (a := .sl (gs.map eGlue)) (by simp)).len
  clear hl
  (try ((repeat (revert hN; revert N; apply Pn.out)); refine wk @Nat.zero_add ?_; (repeat (refine Pn.mk ?_; intro N hN))))
  refine w_loopF (fun n env st => ∃ k : Nat, n = (gs.length) - k ∧ k ≤ (gs.length) ∧ env 5 = .int .i64 (k : Int) ∧ (∀ j : Nat, j < k → ∀ h : j < gs.length, gs[j].g_Name ≠ nm)) (gs.length) ⟨0, by omega, by omega, by (try simp only [go_sem, ↓reduceIte, Nat.reduceEqDiff, Nat.reduceAdd, Nat.reduceSub, Nat.reduceLeDiff, reduceCtorEq]); try rfl, fun _ h => absurd h (Nat.not_lt_zero _)⟩ ?_
  rintro n_a env_a st_a ⟨k, rfl, ale, a5, aA0⟩ afr
  have a0 := afr 0 (by kernel_rfl); have a1 := afr 1 (by kernel_rfl)
  simp only [go_sem, ↓reduceIte, Nat.reduceEqDiff, Nat.reduceAdd, Nat.reduceSub, Nat.reduceLeDiff, reduceCtorEq] at a0 a1
  clear afr
  by_cases hk : (k : Int) < (gs.length : Int)
  · have nexta : ∀ {e : Env}, (e 5 = .int .i64 (IntKind.i64.wrap ((k : Int) + 1))) → (∀ h : k < gs.length, gs[k].g_Name ≠ nm) → ∃ m0, m0 < (gs.length) - k ∧ ∃ k : Nat, m0 = (gs.length) - k ∧ k ≤ (gs.length) ∧ e 5 = .int .i64 (k : Int) ∧ (∀ j : Nat, j < k → ∀ h : j < gs.length, gs[j].g_Name ≠ nm) := fun x1 x2 => ⟨_, by omega, k + 1, rfl, by omega, (by rw [x1, wrap_succ2 (by omega)]), (all_succ aA0 x2)⟩
    have hkn : k < gs.length := by omega
    have hg : (gs.map eGlue)[k]? = some (eGlue gs[k]) := by simp [hkn]
    have ek : IntKind.i64.wrap ((k : Int) + 1) = ((k + 1 : Nat) : Int) := wrap_succ2 (by omega)
    by_cases hh : gs[k].g_Name = nm
    · (try ((repeat (revert hN; revert N; apply Pn.out)); refine wk (tw @a5 (tw @a0 (tw @a1 (tw @hk (tw @hg (tw @eGlue.eq_1 @hh)))))) ?_; (repeat (refine Pn.mk ?_; intro N hN))))
      exact ret1Si (b := ((k + 1 : Nat) : Int)) (.inl rfl) (sd @ek) (by rw [nameIdx_hit hkn hh fun j hj => aA0 j hj (by omega), hitI_yes hkn]; push_cast; rfl)
    · (try ((repeat (revert hN; revert N; apply Pn.out)); refine wk (tw @a5 (tw @a0 (tw @a1 (tw @hk (tw @hg (tw @eGlue.eq_1 @hh)))))) ?_; (repeat (refine Pn.mk ?_; intro N hN))))
      exact nexta (sd (tw @a5 (tw @a0 @a1))) (fun _ => hh)
  · (try ((repeat (revert hN; revert N; apply Pn.out)); refine wk (tw @a5 (tw @a0 (tw @a1 @hk))) ?_; (repeat (refine Pn.mk ?_; intro N hN))))
    exact ret1Si (b := 0) (.inl rfl) (sd @Nat.zero_add) (by rw [nameIdx_none fun j hj => aA0 j (by omega) hj, hitI_no (by omega)])

set_option maxRecDepth 100000 in
set_option maxHeartbeats 4000000 in
theorem l02Tile_v (ts : List XTile) (gl : AV) (nm : ByteArray) : RetS Tryz.prog 145 [.iptr [gl, .sl (ts.map eXTile)], .str nm] (.int .i64 (hitI (nameIdx XTile.name ts nm) ts.length (nameIdx XTile.name ts nm) (-1))) := by
  refine RetS.body cfE rfl fun hl n0 => ?_
  have hn : ts.length ≤ 9223372036854775807 := by simpa using ((hl (.iptr [gl, .sl (ts.map eXTile)]) (by simp)).iptrc (a := .sl (ts.map eXTile)) (by simp)).len
  clear hl
  (try ((repeat (revert hN; revert N; apply Pn.out)); refine wk @Nat.zero_add ?_; (repeat (refine Pn.mk ?_; intro N hN))))
  refine w_loopF (fun n env st => ∃ k : Nat, n = (ts.length) - k ∧ k ≤ (ts.length) ∧ env 5 = .int .i64 (k : Int) ∧ (∀ j : Nat, j < k → ∀ h : j < ts.length, ts[j].name ≠ nm)) (ts.length) ⟨0, by omega, by omega, by (try simp only [go_sem, ↓reduceIte, Nat.reduceEqDiff, Nat.reduceAdd, Nat.reduceSub, Nat.reduceLeDiff, reduceCtorEq]); try rfl, fun _ h => absurd h (Nat.not_lt_zero _)⟩ ?_
  rintro n_a env_a st_a ⟨k, rfl, ale, a5, aA0⟩ afr
  have a0 := afr 0 (by kernel_rfl); have a1 := afr 1 (by kernel_rfl)
  simp only [go_sem, ↓reduceIte, Nat.reduceEqDiff, Nat.reduceAdd, Nat.reduceSub, Nat.reduceLeDiff, reduceCtorEq] at a0 a1
  clear afr
  by_cases hk : (k : Int) < (ts.length : Int)
  · have nexta : ∀ {e : Env}, (e 5 = .int .i64 (IntKind.i64.wrap ((k : Int) + 1))) → (∀ h : k < ts.length, ts[k].name ≠ nm) → ∃ m0, m0 < (ts.length) - k ∧ ∃ k : Nat, m0 = (ts.length) - k ∧ k ≤ (ts.length) ∧ e 5 = .int .i64 (k : Int) ∧ (∀ j : Nat, j < k → ∀ h : j < ts.length, ts[j].name ≠ nm) := fun x1 x2 => ⟨_, by omega, k + 1, rfl, by omega, (by rw [x1, wrap_succ2 (by omega)]), (all_succ aA0 x2)⟩
    have hkn : k < ts.length := by omega
    have hg : (ts.map eXTile)[k]? = some (eXTile ts[k]) := by simp [hkn]
    by_cases hh : ts[k].name = nm
    · (try ((repeat (revert hN; revert N; apply Pn.out)); refine wk (tw @a5 (tw @a0 (tw @a1 (tw @hk (tw @hg (tw @eXTile.eq_1 @hh)))))) ?_; (repeat (refine Pn.mk ?_; intro N hN))))
      exact ret1Si (b := (k : Int)) (.inl rfl) (sd @Nat.zero_add) (by rw [nameIdx_hit hkn hh fun j hj => aA0 j hj (by omega), hitI_yes hkn])
    · (try ((repeat (revert hN; revert N; apply Pn.out)); refine wk (tw @a5 (tw @a0 (tw @a1 (tw @hk (tw @hg (tw @eXTile.eq_1 @hh)))))) ?_; (repeat (refine Pn.mk ?_; intro N hN))))
      exact nexta (sd (tw @a5 (tw @a0 @a1))) (fun _ => hh)
  · (try ((repeat (revert hN; revert N; apply Pn.out)); refine wk (tw @a5 (tw @a0 (tw @a1 @hk))) ?_; (repeat (refine Pn.mk ?_; intro N hN))))
    exact ret1Si (b := -1) (.inl rfl) (sd @Nat.zero_add) (by rw [nameIdx_none fun j hj => aA0 j (by omega) hj, hitI_no (by omega)])

set_option maxRecDepth 100000 in
set_option maxHeartbeats 4000000 in
theorem l02Ok_v (gs : List D_Glue) (ts : List XTile) (hsg : ∀ g ∈ gs, g.g_Name.size ≤ 9223372036854775807) (hst : ∀ t ∈ ts, t.name.size ≤ 9223372036854775807) :
    RetS Tryz.prog 128 [.iptr [.sl (gs.map eGlue), if ts = [] then .nils else .sl (ts.map eXTile)]] (.bool (setB gs ts)) := by
  refine RetS.body cfE rfl fun hl n0 => ?_
  clear hl
  by_cases c1 : (200 : Int) < gs.length
  · by_cases h0 : ts = []
    · rw [if_pos h0]
      (try ((repeat (revert hN; revert N; apply Pn.out)); refine wk @c1 ?_; (repeat (refine Pn.mk ?_; intro N hN))))
      exact ret1Sb (b := false) (.inl rfl) (sd @Nat.zero_add) (setB_false fun h => by have := h.g; omega)
    · rw [if_neg h0]
      (try ((repeat (revert hN; revert N; apply Pn.out)); refine wk @c1 ?_; (repeat (refine Pn.mk ?_; intro N hN))))
      exact ret1Sb (b := false) (.inl rfl) (sd @Nat.zero_add) (setB_false fun h => by have := h.g; omega)
  by_cases h0 : ts = []
  · rw [if_pos h0]
    have hz : ((0 : Nat) : Int) < 1 := by decide
    (try ((repeat (revert hN; revert N; apply Pn.out)); refine wk (tw @c1 @hz) ?_; (repeat (refine Pn.mk ?_; intro N hN))))
    exact ret1Sb (b := false) (.inl rfl) (sd @Nat.zero_add) (setB_false fun h => by have := h.t; rw [h0] at this; simp at this)
  rw [if_neg h0]
  have c2 : ¬ ((ts.length : Int) < 1) := by
    have := List.length_pos_iff.2 h0
    omega
  by_cases c3 : (160 : Int) < ts.length
  · (try ((repeat (revert hN; revert N; apply Pn.out)); refine wk (tw @c1 (tw @c2 @c3)) ?_; (repeat (refine Pn.mk ?_; intro N hN))))
    exact ret1Sb (b := false) (.inl rfl) (sd @Nat.zero_add) (setB_false fun h => by have := h.t; omega)
  (try ((repeat (revert hN; revert N; apply Pn.out)); refine wk (tw @c1 (tw @c2 @c3)) ?_; (repeat (refine Pn.mk ?_; intro N hN))))
  refine w_loopF (fun n env st => ∃ k : Nat, n = (gs.length) - k ∧ k ≤ (gs.length) ∧ env 3 = .int .i64 (k : Int) ∧ (∀ j : Nat, j < k → ∀ h : j < gs.length, GlueOk gs j h)) (gs.length) ⟨0, by omega, by omega, by (try simp only [go_sem, ↓reduceIte, Nat.reduceEqDiff, Nat.reduceAdd, Nat.reduceSub, Nat.reduceLeDiff, reduceCtorEq]); try rfl, fun _ h => absurd h (Nat.not_lt_zero _)⟩ ?_
  rintro n_a env_a st_a ⟨k, rfl, ale, a3, aA0⟩ afr
  have a0 := afr 0 (by kernel_rfl)
  simp only [go_sem, ↓reduceIte, Nat.reduceEqDiff, Nat.reduceAdd, Nat.reduceSub, Nat.reduceLeDiff, reduceCtorEq] at a0
  clear afr
  by_cases hk : (k : Int) < (gs.length : Int)
  · have nexta : ∀ {e : Env}, (e 3 = .int .i64 (IntKind.i64.wrap ((k : Int) + 1))) → (∀ h : k < gs.length, GlueOk gs k h) → ∃ m0, m0 < (gs.length) - k ∧ ∃ k : Nat, m0 = (gs.length) - k ∧ k ≤ (gs.length) ∧ e 3 = .int .i64 (k : Int) ∧ (∀ j : Nat, j < k → ∀ h : j < gs.length, GlueOk gs j h) := fun x1 x2 => ⟨_, by omega, k + 1, rfl, by omega, (by rw [x1, wrap_succ2 (by omega)]), (all_succ aA0 x2)⟩
    have hkn : k < gs.length := by omega
    have hg : (gs.map eGlue)[k]? = some (eGlue gs[k]) := by simp [hkn]
    have ek : IntKind.i64.wrap ((k : Int) + 1) = ((k + 1 : Nat) : Int) := wrap_succ2 (by omega)
    have hle := nameIdx_le (nm := D_Glue.g_Name) hkn
    have e1 : hitI (nameIdx D_Glue.g_Name gs gs[k].g_Name) gs.length (nameIdx D_Glue.g_Name gs gs[k].g_Name + 1) 0 = ((nameIdx D_Glue.g_Name gs gs[k].g_Name + 1 : Nat) : Int) := by rw [hitI_yes (by omega)]; rfl
    have hsz := hsg _ (List.getElem_mem hkn)
    cases hnm : nameB gs[k].g_Name
    · (repeat (first | ((repeat (revert hN; revert N; apply Pn.out)); refine wk (tw @a3 (tw @a0 (tw @hk (tw @hg (tw @eGlue.eq_1 @hnm))))) ?_; (repeat (refine Pn.mk ?_; intro N hN))) | ((try apply Or.inl); refine ⟨_, Ret.x (sIsName_v _ hsz) _, ?_⟩; refine hN _ _ ?_; clear hN N)))
      exact ret1Sb (b := false) (.inl rfl) (sd @Nat.zero_add) (setB_false fun h => by rw [nameB_iff.2 (h.gl k hkn).name] at hnm; cases hnm)
    cases hst : inB gs[k].g_Strength 1 4
    · (repeat (first | ((repeat (revert hN; revert N; apply Pn.out)); refine wk (tw @a3 (tw @a0 (tw @hk (tw @hg (tw @eGlue.eq_1 (tw @hnm @hst)))))) ?_; (repeat (refine Pn.mk ?_; intro N hN))) | ((try apply Or.inl); refine ⟨_, Ret.x (sIsName_v _ hsz) _, ?_⟩; refine hN _ _ ?_; clear hN N) | ((try apply Or.inl); refine ⟨_, Ret.x (l00In_v _ _ _) _, ?_⟩; refine hN _ _ ?_; clear hN N)))
      exact ret1Sb (b := false) (.inl rfl) (sd @Nat.zero_add) (setB_false fun h => by rw [inB_of (h.gl k hkn).str] at hst; cases hst)
    by_cases hid : ((nameIdx D_Glue.g_Name gs gs[k].g_Name + 1 : Nat) : Int) = ((k + 1 : Nat) : Int)
    · (repeat (first | ((repeat (revert hN; revert N; apply Pn.out)); refine wk (tw @a3 (tw @a0 (tw @hk (tw @hg (tw @eGlue.eq_1 (tw @hnm (tw @hst (tw @e1 (tw @ek @hid))))))))) ?_; (repeat (refine Pn.mk ?_; intro N hN))) | ((try apply Or.inl); refine ⟨_, Ret.x (sIsName_v _ hsz) _, ?_⟩; refine hN _ _ ?_; clear hN N) | ((try apply Or.inl); refine ⟨_, Ret.x (l00In_v _ _ _) _, ?_⟩; refine hN _ _ ?_; clear hN N) | ((try apply Or.inl); refine ⟨_, RetS.x (l02Glue_v gs (.sl (ts.map eXTile)) gs[k].g_Name) (sd (tw @a3 (tw @a0 (tw @hk (tw @hg (tw @eGlue.eq_1 (tw @hnm (tw @hst (tw @e1 (tw @ek @hid)))))))))), ?_⟩; refine hN _ _ ?_; clear hN N)))
      exact nexta (sd (tw @a3 (tw @a0 @ek))) (fun _ => ⟨nameB_iff.1 hnm, inB_true hst, (nameIdx_self hkn).1 (by omega)⟩)
    · (repeat (first | ((repeat (revert hN; revert N; apply Pn.out)); refine wk (tw @a3 (tw @a0 (tw @hk (tw @hg (tw @eGlue.eq_1 (tw @hnm (tw @hst (tw @e1 (tw @ek @hid))))))))) ?_; (repeat (refine Pn.mk ?_; intro N hN))) | ((try apply Or.inl); refine ⟨_, Ret.x (sIsName_v _ hsz) _, ?_⟩; refine hN _ _ ?_; clear hN N) | ((try apply Or.inl); refine ⟨_, Ret.x (l00In_v _ _ _) _, ?_⟩; refine hN _ _ ?_; clear hN N) | ((try apply Or.inl); refine ⟨_, RetS.x (l02Glue_v gs (.sl (ts.map eXTile)) gs[k].g_Name) (sd (tw @a3 (tw @a0 (tw @hk (tw @hg (tw @eGlue.eq_1 (tw @hnm (tw @hst (tw @e1 (tw @ek @hid)))))))))), ?_⟩; refine hN _ _ ?_; clear hN N)))
      exact ret1Sb (b := false) (.inl rfl) (sd @Nat.zero_add) (setB_false fun h => hid (by rw [(nameIdx_self hkn).2 (h.gl k hkn).new_]))
  have hkn : k = gs.length := by omega
  subst hkn
  (try ((repeat (revert hN; revert N; apply Pn.out)); refine wk (tw @a3 (tw @a0 @hk)) ?_; (repeat (refine Pn.mk ?_; intro N hN))))
  refine w_loopF (fun n env st => ∃ i : Nat, n = (ts.length) - i ∧ i ≤ (ts.length) ∧ env 5 = .int .i64 (i : Int) ∧ (∀ j : Nat, j < i → ∀ h : j < ts.length, TileOk gs.length ts j h)) (ts.length) ⟨0, by omega, by omega, by (try simp only [go_sem, ↓reduceIte, Nat.reduceEqDiff, Nat.reduceAdd, Nat.reduceSub, Nat.reduceLeDiff, reduceCtorEq, a3, a0]); try rfl, fun _ h => absurd h (Nat.not_lt_zero _)⟩ ?_
  rintro n_b env_b st_b ⟨i, rfl, ble, b5, bA0⟩ bfr
  have b0 := bfr 0 (by kernel_rfl)
  simp only [go_sem, ↓reduceIte, Nat.reduceEqDiff, Nat.reduceAdd, Nat.reduceSub, Nat.reduceLeDiff, reduceCtorEq, a3, a0] at b0
  clear bfr
  by_cases hi : (i : Int) < (ts.length : Int)
  · have nextb : ∀ {e : Env}, (e 5 = .int .i64 (IntKind.i64.wrap ((i : Int) + 1))) → (∀ h : i < ts.length, TileOk gs.length ts i h) → ∃ m0, m0 < (ts.length) - i ∧ ∃ i : Nat, m0 = (ts.length) - i ∧ i ≤ (ts.length) ∧ e 5 = .int .i64 (i : Int) ∧ (∀ j : Nat, j < i → ∀ h : j < ts.length, TileOk gs.length ts j h) := fun x1 x2 => ⟨_, by omega, i + 1, rfl, by omega, (by rw [x1, wrap_succ2 (by omega)]), (all_succ bA0 x2)⟩
    have hin : i < ts.length := by omega
    have hg : (ts.map eXTile)[i]? = some (eXTile ts[i]) := by simp [hin]
    have hle := nameIdx_le (nm := XTile.name) hin
    have e1 : hitI (nameIdx XTile.name ts ts[i].name) ts.length (nameIdx XTile.name ts ts[i].name) (-1) = (nameIdx XTile.name ts ts[i].name : Int) := by rw [hitI_yes (by omega)]
    have hsz := hst _ (List.getElem_mem hin)
    cases hnm : nameB ts[i].name
    · (repeat (first | ((repeat (revert hN; revert N; apply Pn.out)); refine wk (tw @b5 (tw @b0 (tw @hi (tw @hg (tw @eXTile.eq_1 @hnm))))) ?_; (repeat (refine Pn.mk ?_; intro N hN))) | ((try apply Or.inl); refine ⟨_, Ret.x (sIsName_v _ hsz) _, ?_⟩; refine hN _ _ ?_; clear hN N)))
      exact ret1Sb (b := false) (.inl rfl) (sd @Nat.zero_add) (setB_false fun h => by rw [nameB_iff.2 (h.tl i hin).name] at hnm; cases hnm)
    by_cases h4 : (ts[i].sides.length : Int) = 4
    case neg =>
      (repeat (first | ((repeat (revert hN; revert N; apply Pn.out)); refine wk (tw @b5 (tw @b0 (tw @hi (tw @hg (tw @eXTile.eq_1 (tw @hnm @h4)))))) ?_; (repeat (refine Pn.mk ?_; intro N hN))) | ((try apply Or.inl); refine ⟨_, Ret.x (sIsName_v _ hsz) _, ?_⟩; refine hN _ _ ?_; clear hN N)))
      exact ret1Sb (b := false) (.inl rfl) (sd @Nat.zero_add) (setB_false fun h => h4 (by rw [(h.tl i hin).four]; rfl))
    by_cases hid : (nameIdx XTile.name ts ts[i].name : Int) = (i : Int)
    case neg =>
      (repeat (first | ((repeat (revert hN; revert N; apply Pn.out)); refine wk (tw @b5 (tw @b0 (tw @hi (tw @hg (tw @eXTile.eq_1 (tw @hnm (tw @h4 (tw @e1 @hid)))))))) ?_; (repeat (refine Pn.mk ?_; intro N hN))) | ((try apply Or.inl); refine ⟨_, Ret.x (sIsName_v _ hsz) _, ?_⟩; refine hN _ _ ?_; clear hN N) | ((try apply Or.inl); refine ⟨_, RetS.x (l02Tile_v ts (.sl (gs.map eGlue)) ts[i].name) (sd (tw @b5 (tw @b0 (tw @hi (tw @hg (tw @eXTile.eq_1 (tw @hnm (tw @h4 (tw @e1 @hid))))))))), ?_⟩; refine hN _ _ ?_; clear hN N)))
      exact ret1Sb (b := false) (.inl rfl) (sd @Nat.zero_add) (setB_false fun h => hid (by rw [(nameIdx_self hin).2 (h.tl i hin).new_]))
    have e2 : hitI (nameIdx XTile.name ts ts[i].name) ts.length (nameIdx XTile.name ts ts[i].name) (-1) = (i : Int) := by rw [e1, hid]
    (repeat (first | ((repeat (revert hN; revert N; apply Pn.out)); refine wk (tw @b5 (tw @b0 (tw @hi (tw @hg (tw @eXTile.eq_1 (tw @hnm (tw @h4 @e2))))))) ?_; (repeat (refine Pn.mk ?_; intro N hN))) | ((try apply Or.inl); refine ⟨_, Ret.x (sIsName_v _ hsz) _, ?_⟩; refine hN _ _ ?_; clear hN N) | ((try apply Or.inl); refine ⟨_, RetS.x (l02Tile_v ts (.sl (gs.map eGlue)) ts[i].name) (sd (tw @b5 (tw @b0 (tw @hi (tw @hg (tw @eXTile.eq_1 (tw @hnm (tw @h4 @e2)))))))), ?_⟩; refine hN _ _ ?_; clear hN N)))
    refine w_loopF (fun n env st => ∃ r : Nat, n = (4) - r ∧ r ≤ (4) ∧ env 7 = .int .i64 (r : Int) ∧ (∀ j : Nat, j < r → ∀ h : j < ts[i].sides.length, 0 ≤ ts[i].sides[j] ∧ ts[i].sides[j] ≤ gs.length) ∧ st.get ⟨128012007, st_b.next + 1⟩ = some ⟨true, 2, [eXTile ts[i]]⟩) (4) ⟨0, by omega, by omega, by (try simp only [go_sem, ↓reduceIte, Nat.reduceEqDiff, Nat.reduceAdd, Nat.reduceSub, Nat.reduceLeDiff, reduceCtorEq, b5, b0, eXTile]); try rfl, fun _ h => absurd h (Nat.not_lt_zero _), by (try simp only [go_sem, ↓reduceIte, Nat.reduceEqDiff, Nat.reduceAdd, Nat.reduceSub, Nat.reduceLeDiff, reduceCtorEq, b5, b0, eXTile]); try rfl⟩ ?_
    rintro n_c env_c st_c ⟨r, rfl, cle, c7, cA0, cg0⟩ cfr
    have c0 := cfr 0 (by kernel_rfl); have c5 := cfr 5 (by kernel_rfl); have c6 := cfr 6 (by kernel_rfl)
    simp only [go_sem, ↓reduceIte, Nat.reduceEqDiff, Nat.reduceAdd, Nat.reduceSub, Nat.reduceLeDiff, reduceCtorEq, b5, b0, eXTile] at c0 c5 c6
    clear cfr
    by_cases hr : (r : Int) < 4
    · have nextc : ∀ {e : Env} {gg : Rows}, (e 7 = .int .i64 (IntKind.i64.wrap ((r : Int) + 1))) → (∀ h : r < ts[i].sides.length, 0 ≤ ts[i].sides[r] ∧ ts[i].sides[r] ≤ gs.length) → (gg ⟨128012007, st_b.next + 1⟩ = some ⟨true, 2, [eXTile ts[i]]⟩) → ∃ m0, m0 < (4) - r ∧ ∃ r : Nat, m0 = (4) - r ∧ r ≤ (4) ∧ e 7 = .int .i64 (r : Int) ∧ (∀ j : Nat, j < r → ∀ h : j < ts[i].sides.length, 0 ≤ ts[i].sides[j] ∧ ts[i].sides[j] ≤ gs.length) ∧ gg ⟨128012007, st_b.next + 1⟩ = some ⟨true, 2, [eXTile ts[i]]⟩ := fun x1 x2 x3 => ⟨_, by omega, r + 1, rfl, by omega, (by rw [x1, wrap_succ2 (by omega)]), (all_succ cA0 x2), x3⟩
      have hrn : r < ts[i].sides.length := by omega
      have hgr : (ts[i].sides.map eInt)[r]? = some (eInt ts[i].sides[r]) := by simp [hrn]
      cases hv : inB ts[i].sides[r] 0 gs.length
      · (repeat (first | ((repeat (revert hN; revert N; apply Pn.out)); refine wk (tw @c7 (tw @cg0 (tw @c0 (tw @c5 (tw @c6 (tw @hr (tw @hgr (tw @hv (tw @eInt.eq_1 @eXTile.eq_1))))))))) ?_; (repeat (refine Pn.mk ?_; intro N hN))) | ((try apply Or.inl); refine ⟨_, Ret.x (l00In_v _ _ _) _, ?_⟩; refine hN _ _ ?_; clear hN N)))
        exact ret1Sb (b := false) (.inl rfl) (sd @Nat.zero_add) (setB_false fun h => by rw [inB_of ((h.tl i hin).sides r hrn)] at hv; cases hv)
      · (repeat (first | ((repeat (revert hN; revert N; apply Pn.out)); refine wk (tw @c7 (tw @cg0 (tw @c0 (tw @c5 (tw @c6 (tw @hr (tw @hgr (tw @hv (tw @eInt.eq_1 @eXTile.eq_1))))))))) ?_; (repeat (refine Pn.mk ?_; intro N hN))) | ((try apply Or.inl); refine ⟨_, Ret.x (l00In_v _ _ _) _, ?_⟩; refine hN _ _ ?_; clear hN N)))
        refine nextc ?_ (fun _ => inB_true hv) ?_
        all_goals simp only [go_sem, ↓reduceIte, Nat.reduceEqDiff, Nat.reduceAdd, Nat.reduceSub, Nat.reduceLeDiff, reduceCtorEq, c7, cg0, c0, c5, c6, eXTile]
    · (try ((repeat (revert hN; revert N; apply Pn.out)); refine wk (tw @c7 (tw @cg0 (tw @c0 (tw @c5 (tw @c6 @hr))))) ?_; (repeat (refine Pn.mk ?_; intro N hN))))
      exact nextb (sd (tw @c7 (tw @cg0 (tw @c0 (tw @c5 @c6))))) (fun _ => ⟨nameB_iff.1 hnm, by omega, (nameIdx_self hin).1 (by omega), fun j h => cA0 j (by omega) h⟩)
  · (try ((repeat (revert hN; revert N; apply Pn.out)); refine wk (tw @b5 (tw @b0 @hi)) ?_; (repeat (refine Pn.mk ?_; intro N hN))))
    exact ret1Sb (b := true) (.inl rfl) (sd @Nat.zero_add) (setB_true ⟨by omega, by omega, fun j h => aA0 j h h, fun j h => bA0 j (by omega) h⟩)


structure FireOk (t : D_SignalTile) (f : D_Fire) : Prop where
  fr : inB f.g_From 0 3 = true
  too : inB f.g_To 0 3 = true
  ne : f.g_From ≠ f.g_To
  sf : sideOf t f.g_From ≠ 0
  st : sideOf t f.g_To ≠ 0
structure SigOk (t : D_SignalTile) : Prop where
  on : t.g_On.length = 4
  few : t.g_Fires.length ≤ 6
  side : ∀ d : Nat, d < 4 → bAt t.g_On d = true → sideOf t d ≠ 0
  fires : ∀ j : Nat, j < t.g_Fires.length → FireOk t (fireAt t j)
structure SigSetOk (s : D_SignalSet) : Prop where
  set : SetOk s.g_Glues (xtiles s)
  tiles : ∀ i : Nat, i < s.g_Tiles.length → SigOk (tN s i)
open Classical in
noncomputable def sigB (s : D_SignalSet) : Bool := decide (SigSetOk s)
theorem sigB_true {s} (h : SigSetOk s) : true = sigB s := by simp [sigB, h]
theorem sigB_false {s} (h : ¬ SigSetOk s) : false = sigB s := by simp [sigB, h]
theorem sigB_iff {s} : sigB s = true ↔ SigSetOk s := by simp [sigB]
theorem xt_len (s : D_SignalSet) : (xtiles s).length = s.g_Tiles.length := by simp [xtiles]
theorem xt_get {s : D_SignalSet} {i : Nat} (h : i < (xtiles s).length) : (xtiles s)[i] = ⟨(tN s i).g_Name, (tN s i).g_Sides⟩ := by
  have : i < s.g_Tiles.length := by rw [← xt_len]; exact h
  simp [xtiles, tN, List.getD_eq_getElem?_getD, this]
theorem setok_four {s : D_SignalSet} (h : SetOk s.g_Glues (xtiles s)) {i : Nat} (hi : i < s.g_Tiles.length) : (tN s i).g_Sides.length = 4 := by
  have h' : i < (xtiles s).length := by rw [xt_len]; exact hi
  have := (h.tl i h').four
  rw [xt_get h'] at this
  exact this
theorem slN_cell (rows : List (List AV)) : (slN rows).cell = true := by unfold slN; split <;> rfl
theorem fz_slN (g : Rows) (n : Nat) (rows : List (List AV)) : fz g (n + 1) (slN rows) = some (slN rows) := by
  unfold slN; split
  · exact fz_nils _ _
  · exact fz_sl _ _ _
structure SmallNames (s : D_SignalSet) : Prop where
  g : ∀ g ∈ s.g_Glues, g.g_Name.size ≤ 1048576
  t : ∀ t ∈ s.g_Tiles, t.g_Name.size ≤ 1048576

set_option maxRecDepth 100000 in
set_option maxHeartbeats 4000000 in
theorem l31Set_v (s : D_SignalSet) (hs : SmallSet s) (hn : SmallNames s) : RetS Tryz.prog 102 [.iptr (eSet s)] (.bool (sigB s)) := by
  refine RetS.body cfE rfl fun hl n0 => ?_
  clear hl
  have hok : RetS Tryz.prog 128 [.iptr [.sl (s.g_Glues.map eGlue), slN (s.g_Tiles.map eXT)]] (.bool (setB s.g_Glues (xtiles s))) := by
    have := l02Ok_v s.g_Glues (xtiles s) (fun g hg => by have := hn.g g hg; omega) (fun t ht => by
      obtain ⟨x, hx, rfl⟩ := List.mem_map.1 ht
      have := hn.t x hx
      show x.g_Name.size ≤ _
      omega)
    rw [xtiles_e] at this
    rw [slN]
    simpa [xtiles] using this
  have hc := slN_cell (s.g_Tiles.map eXT)
  simp only [AV.cell] at hc
  have hz := fun g n => fz_slN g n (s.g_Tiles.map eXT)
  have hln := hs.t
  cases hb : setB s.g_Glues (xtiles s)
  · (repeat (first | ((repeat (revert hN; revert N; apply Pn.out)); refine wk (tw @hb (tw @hc @hz)) ?_; (repeat (refine Pn.mk ?_; intro N hN))) | ((try apply Or.inl); refine ⟨_, Ret.x (l31Plain_v s hs) _, ?_⟩; refine hN _ _ ?_; clear hN N) | ((try apply Or.inl); refine ⟨_, RetS.x (hok) (sd (tw @hb (tw @hc @hz))), ?_⟩; refine hN _ _ ?_; clear hN N)))
    exact ret1Sb (b := false) (.inl rfl) (sd @Nat.zero_add) (sigB_false fun h => by rw [← setB_true h.set] at hb; cases hb)
  have hset := setB_iff.1 hb
  (repeat (first | ((repeat (revert hN; revert N; apply Pn.out)); refine wk (tw @hb (tw @hc @hz)) ?_; (repeat (refine Pn.mk ?_; intro N hN))) | ((try apply Or.inl); refine ⟨_, Ret.x (l31Plain_v s hs) _, ?_⟩; refine hN _ _ ?_; clear hN N) | ((try apply Or.inl); refine ⟨_, RetS.x (hok) (sd (tw @hb (tw @hc @hz))), ?_⟩; refine hN _ _ ?_; clear hN N)))
  refine w_loopF (fun n env st => ∃ k : Nat, n = (s.g_Tiles.length) - k ∧ k ≤ (s.g_Tiles.length) ∧ env 4 = .int .i64 (k : Int) ∧ (∀ j : Nat, j < k → j < s.g_Tiles.length → SigOk (tN s j))) (s.g_Tiles.length) ⟨0, by omega, by omega, by (try simp only [go_sem, ↓reduceIte, Nat.reduceEqDiff, Nat.reduceAdd, Nat.reduceSub, Nat.reduceLeDiff, reduceCtorEq]); try rfl, fun _ h => absurd h (Nat.not_lt_zero _)⟩ ?_
  rintro n_a env_a st_a ⟨k, rfl, ale, a4, aA0⟩ afr
  have a0 := afr 0 (by kernel_rfl)
  simp only [go_sem, ↓reduceIte, Nat.reduceEqDiff, Nat.reduceAdd, Nat.reduceSub, Nat.reduceLeDiff, reduceCtorEq] at a0
  clear afr
  by_cases hk : (k : Int) < (s.g_Tiles.length : Int)
  · have nexta : ∀ {e : Env}, (e 4 = .int .i64 (IntKind.i64.wrap ((k : Int) + 1))) → (k < s.g_Tiles.length → SigOk (tN s k)) → ∃ m0, m0 < (s.g_Tiles.length) - k ∧ ∃ k : Nat, m0 = (s.g_Tiles.length) - k ∧ k ≤ (s.g_Tiles.length) ∧ e 4 = .int .i64 (k : Int) ∧ (∀ j : Nat, j < k → j < s.g_Tiles.length → SigOk (tN s j)) := fun x1 x2 => ⟨_, by omega, k + 1, rfl, by omega, (by rw [x1, wrap_succ2 (by omega)]), (all_succ aA0 x2)⟩
    have hkn : k < s.g_Tiles.length := by omega
    have hg : (s.g_Tiles.map eTile)[k]? = some (eTile (tN s k)) := get_map eTile hkn
    have h4 := setok_four hset hkn
    have bad : ¬ SigOk (tN s k) → false = sigB s := fun hc => sigB_false fun h => hc (h.tiles k hkn)
    generalize tN s k = t at *
    by_cases c1 : (t.g_On.length : Int) = 4
    case neg =>
      (try ((repeat (revert hN; revert N; apply Pn.out)); refine wk (tw @a4 (tw @a0 (tw @hk (tw @hg (tw @eSet.eq_1 (tw @eTile.eq_1 @c1)))))) ?_; (repeat (refine Pn.mk ?_; intro N hN))))
      exact ret1Sb (b := false) (.inl rfl) (sd @Nat.zero_add) (bad fun h => c1 (by rw [h.on]; rfl))
    by_cases c2 : (6 : Int) < t.g_Fires.length
    · (try ((repeat (revert hN; revert N; apply Pn.out)); refine wk (tw @a4 (tw @a0 (tw @hk (tw @hg (tw @eSet.eq_1 (tw @eTile.eq_1 (tw @c1 @c2))))))) ?_; (repeat (refine Pn.mk ?_; intro N hN))))
      exact ret1Sb (b := false) (.inl rfl) (sd @Nat.zero_add) (bad fun h => by have := h.few; omega)
    have hon : t.g_On.length = 4 := by omega
    (try ((repeat (revert hN; revert N; apply Pn.out)); refine wk (tw @a4 (tw @a0 (tw @hk (tw @hg (tw @eSet.eq_1 (tw @eTile.eq_1 (tw @c1 @c2))))))) ?_; (repeat (refine Pn.mk ?_; intro N hN))))
    refine w_loopF (fun n env st => ∃ d : Nat, n = (4) - d ∧ d ≤ (4) ∧ env 6 = .int .i64 (d : Int) ∧ (∀ j : Nat, j < d → bAt t.g_On j = true → sideOf t j ≠ 0)) (4) ⟨0, by omega, by omega, by (try simp only [go_sem, ↓reduceIte, Nat.reduceEqDiff, Nat.reduceAdd, Nat.reduceSub, Nat.reduceLeDiff, reduceCtorEq, a4, a0, eSet, eTile]); try rfl, fun _ h => absurd h (Nat.not_lt_zero _)⟩ ?_
    rintro n_b env_b st_b ⟨d, rfl, ble, b6, bA0⟩ bfr
    have b0 := bfr 0 (by kernel_rfl); have b4 := bfr 4 (by kernel_rfl); have b5 := bfr 5 (by kernel_rfl)
    simp only [go_sem, ↓reduceIte, Nat.reduceEqDiff, Nat.reduceAdd, Nat.reduceSub, Nat.reduceLeDiff, reduceCtorEq, a4, a0, eSet, eTile] at b0 b4 b5
    clear bfr
    by_cases hd : (d : Int) < 4
    · have nextb : ∀ {e : Env}, (e 6 = .int .i64 (IntKind.i64.wrap ((d : Int) + 1))) → (bAt t.g_On d = true → sideOf t d ≠ 0) → ∃ m0, m0 < (4) - d ∧ ∃ d : Nat, m0 = (4) - d ∧ d ≤ (4) ∧ e 6 = .int .i64 (d : Int) ∧ (∀ j : Nat, j < d → bAt t.g_On j = true → sideOf t j ≠ 0) := fun x1 x2 => ⟨_, by omega, d + 1, rfl, by omega, (by rw [x1, wrap_succ2 (by omega)]), (all_succ bA0 x2)⟩
      have g1 : (t.g_On.map eBool)[d]? = some (eBool (bAt t.g_On d)) := get_map eBool (d := false) (by omega)
      have g2 : (t.g_Sides.map eInt)[d]? = some (eInt (sideOf t d)) := get_map eInt (d := 0) (by omega)
      cases ho : bAt t.g_On d
      · (try ((repeat (revert hN; revert N; apply Pn.out)); refine wk (tw @b6 (tw @b0 (tw @b4 (tw @b5 (tw @hd (tw @g1 (tw @ho @eBool.eq_1))))))) ?_; (repeat (refine Pn.mk ?_; intro N hN))))
        exact nextb (sd (tw @b6 (tw @b0 (tw @b4 @b5)))) (fun h => by rw [ho] at h; cases h)
      by_cases h0 : sideOf t d = 0
      · (try ((repeat (revert hN; revert N; apply Pn.out)); refine wk (tw @b6 (tw @b0 (tw @b4 (tw @b5 (tw @hd (tw @g1 (tw @g2 (tw @ho (tw @h0 (tw @eBool.eq_1 @eInt.eq_1)))))))))) ?_; (repeat (refine Pn.mk ?_; intro N hN))))
        exact ret1Sb (b := false) (.inl rfl) (sd @Nat.zero_add) (bad fun h => h.side d (by omega) ho h0)
      · (try ((repeat (revert hN; revert N; apply Pn.out)); refine wk (tw @b6 (tw @b0 (tw @b4 (tw @b5 (tw @hd (tw @g1 (tw @g2 (tw @ho (tw @h0 (tw @eBool.eq_1 @eInt.eq_1)))))))))) ?_; (repeat (refine Pn.mk ?_; intro N hN))))
        exact nextb (sd (tw @b6 (tw @b0 (tw @b4 @b5)))) (fun _ => h0)
    have hd4 : d = 4 := by omega
    subst hd4
    (try ((repeat (revert hN; revert N; apply Pn.out)); refine wk (tw @b6 (tw @b0 (tw @b4 (tw @b5 @hd)))) ?_; (repeat (refine Pn.mk ?_; intro N hN))))
    refine w_loopF (fun n env st => ∃ m : Nat, n = (t.g_Fires.length) - m ∧ m ≤ (t.g_Fires.length) ∧ env 7 = .int .i64 (m : Int) ∧ (∀ j : Nat, j < m → j < t.g_Fires.length → FireOk t (fireAt t j))) (t.g_Fires.length) ⟨0, by omega, by omega, by (try simp only [go_sem, ↓reduceIte, Nat.reduceEqDiff, Nat.reduceAdd, Nat.reduceSub, Nat.reduceLeDiff, reduceCtorEq, b6, b0, b4, b5]); try rfl, fun _ h => absurd h (Nat.not_lt_zero _)⟩ ?_
    rintro n_c env_c st_c ⟨m, rfl, cle, c7, cA0⟩ cfr
    have c0 := cfr 0 (by kernel_rfl); have c4 := cfr 4 (by kernel_rfl); have c5 := cfr 5 (by kernel_rfl)
    simp only [go_sem, ↓reduceIte, Nat.reduceEqDiff, Nat.reduceAdd, Nat.reduceSub, Nat.reduceLeDiff, reduceCtorEq, b6, b0, b4, b5] at c0 c4 c5
    clear cfr
    by_cases hm : (m : Int) < (t.g_Fires.length : Int)
    · have nextc : ∀ {e : Env}, (e 7 = .int .i64 (IntKind.i64.wrap ((m : Int) + 1))) → (m < t.g_Fires.length → FireOk t (fireAt t m)) → ∃ m0, m0 < (t.g_Fires.length) - m ∧ ∃ m : Nat, m0 = (t.g_Fires.length) - m ∧ m ≤ (t.g_Fires.length) ∧ e 7 = .int .i64 (m : Int) ∧ (∀ j : Nat, j < m → j < t.g_Fires.length → FireOk t (fireAt t j)) := fun x1 x2 => ⟨_, by omega, m + 1, rfl, by omega, (by rw [x1, wrap_succ2 (by omega)]), (all_succ cA0 x2)⟩
      have hmn : m < t.g_Fires.length := by omega
      have g1 : (t.g_Fires.map eFire)[m]? = some (eFire (fireAt t m)) := get_map eFire hmn
      have bad2 : ¬ FireOk t (fireAt t m) → false = sigB s := fun hc => bad fun h => hc (h.fires m hmn)
      generalize fireAt t m = f at *
      cases d1 : inB f.g_From 0 3
      · (repeat (first | ((repeat (revert hN; revert N; apply Pn.out)); refine wk (tw @c7 (tw @c0 (tw @c4 (tw @c5 (tw @hm (tw @g1 (tw @d1 @eFire.eq_1))))))) ?_; (repeat (refine Pn.mk ?_; intro N hN))) | ((try apply Or.inl); refine ⟨_, Ret.x (l00In_v _ _ _) _, ?_⟩; refine hN _ _ ?_; clear hN N)))
        exact ret1Sb (b := false) (.inl rfl) (sd @Nat.zero_add) (bad2 fun h => by rw [h.fr] at d1; cases d1)
      cases d2 : inB f.g_To 0 3
      · (repeat (first | ((repeat (revert hN; revert N; apply Pn.out)); refine wk (tw @c7 (tw @c0 (tw @c4 (tw @c5 (tw @hm (tw @g1 (tw @d1 (tw @d2 @eFire.eq_1)))))))) ?_; (repeat (refine Pn.mk ?_; intro N hN))) | ((try apply Or.inl); refine ⟨_, Ret.x (l00In_v _ _ _) _, ?_⟩; refine hN _ _ ?_; clear hN N)))
        exact ret1Sb (b := false) (.inl rfl) (sd @Nat.zero_add) (bad2 fun h => by rw [h.too] at d2; cases d2)
      have i1 := inB_true d1
      have i2 := inB_true d2
      have j1 := i1.1
      have j2 := i2.1
      have g2 : (t.g_Sides.map eInt)[f.g_From.toNat]? = some (eInt (sideOf t f.g_From)) := get_map eInt (d := 0) (by omega)
      have g3 : (t.g_Sides.map eInt)[f.g_To.toNat]? = some (eInt (sideOf t f.g_To)) := get_map eInt (d := 0) (by omega)
      by_cases d3 : f.g_From = f.g_To
      · (repeat (first | ((repeat (revert hN; revert N; apply Pn.out)); refine wk (tw @c7 (tw @c0 (tw @c4 (tw @c5 (tw @hm (tw @g1 (tw @d1 (tw @d2 (tw @d3 @eFire.eq_1))))))))) ?_; (repeat (refine Pn.mk ?_; intro N hN))) | ((try apply Or.inl); refine ⟨_, Ret.x (l00In_v _ _ _) _, ?_⟩; refine hN _ _ ?_; clear hN N)))
        exact ret1Sb (b := false) (.inl rfl) (sd @Nat.zero_add) (bad2 fun h => h.ne d3)
      by_cases d4 : sideOf t f.g_From = 0
      · (repeat (first | ((repeat (revert hN; revert N; apply Pn.out)); refine wk (tw @c7 (tw @c0 (tw @c4 (tw @c5 (tw @hm (tw @g1 (tw @g2 (tw @d1 (tw @d2 (tw @d3 (tw @d4 (tw @j1 (tw @eFire.eq_1 @eInt.eq_1))))))))))))) ?_; (repeat (refine Pn.mk ?_; intro N hN))) | ((try apply Or.inl); refine ⟨_, Ret.x (l00In_v _ _ _) _, ?_⟩; refine hN _ _ ?_; clear hN N)))
        exact ret1Sb (b := false) (.inl rfl) (sd @Nat.zero_add) (bad2 fun h => h.sf d4)
      by_cases d5 : sideOf t f.g_To = 0
      · (repeat (first | ((repeat (revert hN; revert N; apply Pn.out)); refine wk (tw @c7 (tw @c0 (tw @c4 (tw @c5 (tw @hm (tw @g1 (tw @g2 (tw @g3 (tw @d1 (tw @d2 (tw @d3 (tw @d4 (tw @d5 (tw @j1 (tw @j2 (tw @eFire.eq_1 @eInt.eq_1)))))))))))))))) ?_; (repeat (refine Pn.mk ?_; intro N hN))) | ((try apply Or.inl); refine ⟨_, Ret.x (l00In_v _ _ _) _, ?_⟩; refine hN _ _ ?_; clear hN N)))
        exact ret1Sb (b := false) (.inl rfl) (sd @Nat.zero_add) (bad2 fun h => h.st d5)
      · (repeat (first | ((repeat (revert hN; revert N; apply Pn.out)); refine wk (tw @c7 (tw @c0 (tw @c4 (tw @c5 (tw @hm (tw @g1 (tw @g2 (tw @g3 (tw @d1 (tw @d2 (tw @d3 (tw @d4 (tw @d5 (tw @j1 (tw @j2 (tw @eFire.eq_1 @eInt.eq_1)))))))))))))))) ?_; (repeat (refine Pn.mk ?_; intro N hN))) | ((try apply Or.inl); refine ⟨_, Ret.x (l00In_v _ _ _) _, ?_⟩; refine hN _ _ ?_; clear hN N)))
        exact nextc (sd (tw @c7 (tw @c0 (tw @c4 @c5)))) (fun _ => ⟨d1, d2, d3, d4, d5⟩)
    · (try ((repeat (revert hN; revert N; apply Pn.out)); refine wk (tw @c7 (tw @c0 (tw @c4 (tw @c5 @hm)))) ?_; (repeat (refine Pn.mk ?_; intro N hN))))
      exact nexta (sd (tw @c7 (tw @c0 (tw @c4 @c5)))) (fun _ => ⟨hon, by omega, fun d hd => bA0 d hd, fun j hj => cA0 j (by omega) hj⟩)
  · (try ((repeat (revert hN; revert N; apply Pn.out)); refine wk (tw @a4 (tw @a0 @hk)) ?_; (repeat (refine Pn.mk ?_; intro N hN))))
    exact ret1Sb (b := true) (.inl rfl) (sd @Nat.zero_add) (sigB_true ⟨hset, fun i hi => aA0 i (by omega) hi⟩)

theorem SigSetOk.form {s : D_SignalSet} (h : SigSetOk s) : SetForm s := fun t ht => by
  obtain ⟨i, hi, rfl⟩ := List.getElem_of_mem ht
  have e : s.g_Tiles[i] = tN s i := by simp [tN, List.getD_eq_getElem?_getD, hi]
  rw [e]
  refine ⟨setok_four h.set hi, (h.tiles i hi).on, fun f hf => ?_⟩
  obtain ⟨j, hj, rfl⟩ := List.getElem_of_mem hf
  have := (h.tiles i hi).fires j hj
  have e2 : (tN s i).g_Fires[j] = fireAt (tN s i) j := by simp [fireAt, List.getD_eq_getElem?_getD, hj]
  rw [e2]
  exact ⟨this.fr, this.too⟩
theorem SigSetOk.ssides {s : D_SignalSet} (h : SigSetOk s) : SetSides s := by
  refine ⟨fun t ht d hd => ?_, fun t ht d hd hon => ?_⟩
  · obtain ⟨i, hi, rfl⟩ := List.getElem_of_mem ht
    have e : s.g_Tiles[i] = tN s i := by simp [tN, List.getD_eq_getElem?_getD, hi]
    rw [e]
    have hi' : i < (xtiles s).length := by rw [xt_len]; exact hi
    have h4 := setok_four h.set hi
    have := inB_true hd
    have hd' : d.toNat < (xtiles s)[i].sides.length := by rw [xt_get hi']; show d.toNat < (tN s i).g_Sides.length; omega
    have := (h.set.tl i hi').sides d.toNat hd'
    have e2 : (xtiles s)[i].sides[d.toNat] = sideOf (tN s i) d := by
      simp only [xt_get hi', sideOf, List.getD_eq_getElem?_getD]
      rw [List.getElem?_eq_getElem (by omega)]; rfl
    rw [e2] at this
    exact this
  · obtain ⟨i, hi, rfl⟩ := List.getElem_of_mem ht
    have e : s.g_Tiles[i] = tN s i := by simp [tN, List.getD_eq_getElem?_getD, hi]
    rw [e] at hon ⊢
    have := inB_true hd
    have hdn : ((d.toNat : Nat) : Int) = d := by omega
    have := (h.tiles i hi).side d.toNat (by omega) (by rw [hdn]; exact hon)
    rw [hdn] at this
    exact this

end Go.Proofs.YtpbniieiinhliaaGreat.V
