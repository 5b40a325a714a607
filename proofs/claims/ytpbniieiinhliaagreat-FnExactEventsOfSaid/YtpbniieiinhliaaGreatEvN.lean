/- The program's new cell, and whether a tile attaches. -/
import Derived.Test.YtpbniieiinhliaaGreatEvM
set_option linter.unusedVariables false
set_option linter.unusedSimpArgs false
namespace Go.Proofs.YtpbniieiinhliaaGreat.V
open Go.RowKit
attribute [local irreducible] wpv wpOps
attribute [local go_sem] wantedV vop qop eop vis evO upd envOf K.av boxOf AV.cells AV.cell rowOf rowsOf part ld rowAt setR killR ibin vbin vsh vclear vsbin sbin eq1 eqL xorB vnil vnilS vnilF hiOf loOf vslice vsliceS viaddr vidxS vidxA vlen vnot vneg vconv vconvS vpick vchk vfield vextract vlenS fillV vmk rowsIn putCs vstore vappend seqQ blockQ most AV.undef callW List.getD_cons_zero List.getD_cons_succ List.getD_nil List.all_cons List.all_nil Bool.and_true Bool.true_and Bool.and_self Bool.not_true Bool.not_false Option.map_some Option.map_none Option.bind_some Option.bind_none List.length_cons List.length_nil List.take_succ_cons List.take_zero List.take_nil List.drop_succ_cons List.drop_zero List.drop_nil List.head?_cons List.map_cons List.map_nil List.getElem?_cons_zero List.getElem?_cons_succ List.cons_append List.nil_append List.append_nil List.length_map List.set_cons_zero List.set_cons_succ Nat.reduceMul eq_self Int.toNat_natCast Int.natCast_nonneg and_self true_and and_true decide_true decide_false Bool.false_eq_true Nat.zero_add Nat.add_zero List.contains_cons List.contains_nil Bool.or_false Bool.false_or beq_self_eq_true Nat.reduceBEq ne_eq not_true_eq_false not_false_eq_true Id.mk.injEq false_and and_false Nat.reduceLT Int.reduceLE Int.reduceLT Int.reduceToNat Int.reduceNeg Int.reduceAdd Nat.le_refl List.length_append beq_true beq_false Bool.not_eq_eq_eq_not rw_ fzRow_cons fzRow_nil fz_int fz_bool fz_str fz_sl fz_nils fz_agg fz_iptr fz_ptrE fz_fn fz_nilp fz_nilf fz_tup

def newC (s : D_SignalSet) (p : D_Point) (k : Nat) : D_SignalCell := ⟨p, k, (tN s k).g_On, List.replicate 4 false, List.replicate (tN s k).g_Fires.length false⟩
theorem newC_ok {s : D_SignalSet} (hok : SigSetOk s) {p : D_Point} (hp : ptB p = true) {k : Nat} (hk : k < s.g_Tiles.length) : FormOk s (newC s p k) :=
  ⟨hp, by show (0 : Int) ≤ (k : Int); omega, by show (k : Int) < _; omega, (hok.tiles k hk).on, by simp [newC], by simp [newC, tileAt_N]⟩
theorem rep_false (n : Nat) : List.replicate n [AV.bool false] = (List.replicate n false).map eBool := by simp [eBool]

set_option maxRecDepth 100000 in
set_option maxHeartbeats 4000000 in
theorem newCell_v (s : D_SignalSet) (p : D_Point) (k : Nat) (hk : k < s.g_Tiles.length) (h1 : (tN s k).g_On.length ≤ 1048576) (h2 : (tN s k).g_Fires.length ≤ 1048576) :
    Ret Tryz.prog 94 [.agg (eSet s), .agg (ePoint p), .int .i64 k] (.agg (eCell (newC s p k))) := by
  refine Ret.body cf94 rfl fun hl σ => ?_
  try simp only [q]
  clear hl
  have g1 : (s.g_Tiles.map eTile)[k]? = some (eTile (tN s k)) := get_map eTile hk
  have hcl := cloneBool_v (tN s k).g_On h1
  have e1 : ((tN s k).g_Fires.length : Int) ≤ ((16777216 : Nat) : Int) := by omega
  have fb : ∀ (g : Rows) (x : Bool), fzRow g 4 (eBool x) = some (eBool x) := fun g x => by simp [eBool, fzRow_cons, fzRow_nil, fz_bool]
  have hn : newC s p k = ⟨p, k, (tN s k).g_On, List.replicate 4 false, List.replicate (tN s k).g_Fires.length false⟩ := rfl
  rw [hn]
  generalize tN s k = t at *
  have r1 := rep_false 4
  have r2 := rep_false t.g_Fires.length
  (repeat (first | ((first | apply w_seq | apply w_reg); intro N hN) | ((first | (apply w_op; intro N hN) | apply w_condB); simp only [go_sem, ↓reduceIte, Nat.reduceEqDiff, Nat.reduceAdd, Nat.reduceSub, Nat.reduceLeDiff, reduceCtorEq, eSet, eTile, ePoint, g1, e1, rep_false, Int.reduceToNat, Int.le_refl]; first | (refine hN _ _ ?_; clear hN N) | (rfl; change wpv _ _ _ _ _) | skip) | (apply w_nil; refine hN _ _ ?_; clear hN N; try (simp only [seqQ, blockQ, ↓reduceIte, Nat.reduceEqDiff]); try (refine hN _ _ ?_; clear hN N)) | apply w_block | ((first | apply w_skip | apply w_exit | apply w_ret); try (simp only [seqQ, blockQ, ↓reduceIte, Nat.reduceEqDiff]); try (refine hN _ _ ?_; clear hN N)) | ((first | refine hN _ _ ?_ | (clear hN N; first | refine hN _ _ ?_ | (clear hN N; first | refine hN _ _ ?_ | (clear hN N; first | refine hN _ _ ?_ | (clear hN N; refine hN _ _ ?_))))); clear hN N) | (refine .inl ⟨_, Ret.x (hcl) _, ?_⟩; refine hN _ _ ?_; clear hN N)))
  refine retG (vs := [.agg [.int .i64 p.g_X, .int .i64 p.g_Y, .int .i64 k, .sl (t.g_On.map eBool), .own ⟨94002005, σ.next + 1 + 1⟩ 0 4, .own ⟨94002009, σ.next + 1 + 1⟩ 0 t.g_Fires.length]]) (.inl rfl) (by simp only [vresL, vres1, go_sem, ↓reduceIte, Nat.reduceEqDiff, Nat.reduceAdd, Nat.reduceSub, Nat.reduceLeDiff, reduceCtorEq]) ?_
  rw [tupOf, fz_agg, fzRow_cons, fz_int, fzRow_cons, fz_int, fzRow_cons, fz_int, fzRow_cons, fz_sl, fzRow_cons, fz_own_map (e := eBool) (l := List.replicate 4 false) (sz := 1) (len := 4) (by simp only [go_sem, ↓reduceIte, Nat.reduceEqDiff, Nat.reduceAdd, Nat.reduceSub, Nat.reduceLeDiff, reduceCtorEq]) rfl (fb _), fzRow_cons, fz_own_map (e := eBool) (l := List.replicate t.g_Fires.length false) (sz := 1) (len := t.g_Fires.length) (by simp only [go_sem, ↓reduceIte, Nat.reduceEqDiff, Nat.reduceAdd, Nat.reduceSub, Nat.reduceLeDiff, reduceCtorEq]) (by simp) (fb _), fzRow_nil]
  rfl

theorem meets_grip {s : D_SignalSet} (hSS : SetSides s) {cells : List D_SignalCell} {p : D_Point} {k : Nat} (hk : k < s.g_Tiles.length) {d : Int} (hd : inB d 0 3 = true) : meetsB s cells (newC s p k) d = gripB s cells p (tileAt s k) d := by
  have ht : tileAt s (newC s p k).g_Tile = tN s k := rfl
  have ht2 : tileAt s k = tN s k := rfl
  unfold meetsB gripB
  rw [ht, ht2]
  have hat : (newC s p k).g_At = p := rfl
  have hon : (newC s p k).g_On = (tN s k).g_On := rfl
  rw [hat, hon]
  by_cases h : idxN cells (stepP p d) < cells.length
  · rw [dif_pos h]
    have hn : nbrP cells p d = cells[idxN cells (stepP p d)] := by simp [nbrP, List.getD_eq_getElem?_getD, h]
    rw [hn]
    generalize cells[idxN cells (stepP p d)] = n
    simp only [h, decide_true, Bool.true_and]
    cases ho : bAt (tN s k).g_On d
    · simp
    · have h1 := hSS.on _ (tN_mem hk) d hd ho
      have h2 := (hSS.sides _ (tN_mem hk) d hd).1
      have h3 : 0 < sideOf (tN s k) d := by omega
      simp only [h3, decide_true, Bool.true_and]
      rw [Bool.and_comm]
      congr 1
      simp [eq_comm]
  · rw [dif_neg h]; simp [h]

def attachB (s : D_SignalSet) (temp : Int) (cells : List D_SignalCell) (p : D_Point) (k : Nat) : Bool := ptB p && (!decide (idxN cells p < cells.length) && attB s temp cells p k)

set_option maxRecDepth 100000 in
set_option maxHeartbeats 4000000 in
theorem attaches_v (s : D_SignalSet) (temp : Int) (cells : List D_SignalCell) (p : D_Point) (k : Nat) (hk : k < s.g_Tiles.length) (hok : CellsOk s cells) :
    RetS Tryz.prog 76 [.agg (eWorld s temp cells), .agg (ePoint p), .int .i64 k] (.bool (attachB s temp cells p k)) := by
  refine RetS.body cf76 rfl fun hl n0 => ?_
  try simp only [q]
  clear hl
  unfold attachB
  have hR : RisC cells := hok.ris
  have hat := at_v s temp cells p hR (by have := hok.few; omega)
  have hvp := validPoint_v p
  cases hp : ptB p
  · (repeat (first | ((first | apply w_seq | apply w_reg); intro N hN) | ((first | (apply w_op; intro N hN) | apply w_condB); simp only [go_sem, ↓reduceIte, Nat.reduceEqDiff, Nat.reduceAdd, Nat.reduceSub, Nat.reduceLeDiff, reduceCtorEq, eWorld, ePoint, hp]; first | (refine hN _ _ ?_; clear hN N) | (rfl; change wpv _ _ _ _ _) | skip) | (apply w_nil; refine hN _ _ ?_; clear hN N; try (simp only [seqQ, blockQ, ↓reduceIte, Nat.reduceEqDiff]); try (refine hN _ _ ?_; clear hN N)) | apply w_block | ((first | apply w_skip | apply w_exit | apply w_ret); try (simp only [seqQ, blockQ, ↓reduceIte, Nat.reduceEqDiff]); try (refine hN _ _ ?_; clear hN N)) | ((first | refine hN _ _ ?_ | (clear hN N; first | refine hN _ _ ?_ | (clear hN N; first | refine hN _ _ ?_ | (clear hN N; first | refine hN _ _ ?_ | (clear hN N; refine hN _ _ ?_))))); clear hN N) | (refine .inl ⟨_, Ret.x (hvp) _, ?_⟩; refine hN _ _ ?_; clear hN N)))
    exact ret1Sb (b := false) (.inl rfl) (by simp only [go_sem, ↓reduceIte, Nat.reduceEqDiff, Nat.reduceAdd, Nat.reduceSub, Nat.reduceLeDiff, reduceCtorEq]) (by simp)
  by_cases hi : idxN cells p < cells.length
  · have hidx : idxI cells p = (idxN cells p : Int) := if_pos hi
    (repeat (first | ((first | apply w_seq | apply w_reg); intro N hN) | ((first | (apply w_op; intro N hN) | apply w_condB); simp only [go_sem, ↓reduceIte, Nat.reduceEqDiff, Nat.reduceAdd, Nat.reduceSub, Nat.reduceLeDiff, reduceCtorEq, eWorld, ePoint, hp, hidx]; first | (refine hN _ _ ?_; clear hN N) | (rfl; change wpv _ _ _ _ _) | skip) | (apply w_nil; refine hN _ _ ?_; clear hN N; try (simp only [seqQ, blockQ, ↓reduceIte, Nat.reduceEqDiff]); try (refine hN _ _ ?_; clear hN N)) | apply w_block | ((first | apply w_skip | apply w_exit | apply w_ret); try (simp only [seqQ, blockQ, ↓reduceIte, Nat.reduceEqDiff]); try (refine hN _ _ ?_; clear hN N)) | ((first | refine hN _ _ ?_ | (clear hN N; first | refine hN _ _ ?_ | (clear hN N; first | refine hN _ _ ?_ | (clear hN N; first | refine hN _ _ ?_ | (clear hN N; refine hN _ _ ?_))))); clear hN N) | (refine .inl ⟨_, Ret.x (hvp) _, ?_⟩; refine hN _ _ ?_; clear hN N) | (refine .inl ⟨_, RetS.x (hat) ?_, ?_⟩; (focus (simp only [go_sem, ↓reduceIte, Nat.reduceEqDiff, Nat.reduceAdd, Nat.reduceSub, Nat.reduceLeDiff, reduceCtorEq, eWorld, ePoint, hp, hidx]; done)); refine hN _ _ ?_; clear hN N)))
    exact ret1Sb (b := false) (.inl rfl) (by simp only [go_sem, ↓reduceIte, Nat.reduceEqDiff, Nat.reduceAdd, Nat.reduceSub, Nat.reduceLeDiff, reduceCtorEq]) (by simp [hi])
  have hidx : idxI cells p = -1 := if_neg hi
  have hng : ¬ ((0 : Int) ≤ -1) := by decide
  have hso := hok.set.tiles k hk
  have hnc := newCell_v s p k hk (by have := hso.on; omega) (by have := hso.few; omega)
  have hfc := newC_ok hok.set hp hk
  have hSS := hok.set.ssides
  have hS := hok.set.form
  (repeat (first | ((first | apply w_seq | apply w_reg); intro N hN) | ((first | (apply w_op; intro N hN) | apply w_condB); simp only [go_sem, ↓reduceIte, Nat.reduceEqDiff, Nat.reduceAdd, Nat.reduceSub, Nat.reduceLeDiff, reduceCtorEq, eWorld, eSet, ePoint, hp, hidx, hng]; first | (refine hN _ _ ?_; clear hN N) | (rfl; change wpv _ _ _ _ _) | skip) | (apply w_nil; refine hN _ _ ?_; clear hN N; try (simp only [seqQ, blockQ, ↓reduceIte, Nat.reduceEqDiff]); try (refine hN _ _ ?_; clear hN N)) | apply w_block | ((first | apply w_skip | apply w_exit | apply w_ret); try (simp only [seqQ, blockQ, ↓reduceIte, Nat.reduceEqDiff]); try (refine hN _ _ ?_; clear hN N)) | ((first | refine hN _ _ ?_ | (clear hN N; first | refine hN _ _ ?_ | (clear hN N; first | refine hN _ _ ?_ | (clear hN N; first | refine hN _ _ ?_ | (clear hN N; refine hN _ _ ?_))))); clear hN N) | (refine .inl ⟨_, Ret.x (hvp) _, ?_⟩; refine hN _ _ ?_; clear hN N) | (refine .inl ⟨_, RetS.x (hat) ?_, ?_⟩; (focus (simp only [go_sem, ↓reduceIte, Nat.reduceEqDiff, Nat.reduceAdd, Nat.reduceSub, Nat.reduceLeDiff, reduceCtorEq, eWorld, eSet, ePoint, hp, hidx, hng]; done)); refine hN _ _ ?_; clear hN N) | (refine .inl ⟨_, Ret.x (hnc) _, ?_⟩; refine hN _ _ ?_; clear hN N)))
  refine w_loopF (fun n env st => ∃ d : Nat, n = (4) - d ∧ d ≤ (4) ∧ env 24 = .int .i64 (d : Int) ∧ env 8 = .int .i64 (strN s cells p (tileAt s k) d) ∧ st.get ⟨76000000, n0⟩ = some ⟨true, 4, [eWorld s temp cells]⟩ ∧ st.get ⟨76003005, n0 + 1 + 1⟩ = some ⟨true, 6, [eCell (newC s p k)]⟩) (4) ⟨0, by omega, by omega, by (try simp only [go_sem, ↓reduceIte, Nat.reduceEqDiff, Nat.reduceAdd, Nat.reduceSub, Nat.reduceLeDiff, reduceCtorEq, eWorld, eCell, strN]); try rfl, by (try simp only [go_sem, ↓reduceIte, Nat.reduceEqDiff, Nat.reduceAdd, Nat.reduceSub, Nat.reduceLeDiff, reduceCtorEq, eWorld, eCell, strN]); try rfl, by (try simp only [go_sem, ↓reduceIte, Nat.reduceEqDiff, Nat.reduceAdd, Nat.reduceSub, Nat.reduceLeDiff, reduceCtorEq, eWorld, eCell, strN]); try rfl, by (try simp only [go_sem, ↓reduceIte, Nat.reduceEqDiff, Nat.reduceAdd, Nat.reduceSub, Nat.reduceLeDiff, reduceCtorEq, eWorld, eCell, strN]); try rfl⟩ ?_
  rintro n_a env_a st_a ⟨d, rfl, ale, a24, a8, ag0, ag1⟩ afr
  have a3 := afr 3 (by kernel_rfl); have a7 := afr 7 (by kernel_rfl)
  simp only [go_sem, ↓reduceIte, Nat.reduceEqDiff, Nat.reduceAdd, Nat.reduceSub, Nat.reduceLeDiff, reduceCtorEq, eWorld, eCell, strN] at a3 a7
  clear afr
  by_cases hd4 : (d : Int) < 4
  · have nexta : ∀ {e : Env} {gg : Rows}, (e 24 = .int .i64 (IntKind.i64.wrap ((d : Int) + 1))) → (e 8 = .int .i64 (strN s cells p (tileAt s k) (d + 1))) → (gg ⟨76000000, n0⟩ = some ⟨true, 4, [eWorld s temp cells]⟩) → (gg ⟨76003005, n0 + 1 + 1⟩ = some ⟨true, 6, [eCell (newC s p k)]⟩) → ∃ m0, m0 < (4) - d ∧ ∃ d : Nat, m0 = (4) - d ∧ d ≤ (4) ∧ e 24 = .int .i64 (d : Int) ∧ e 8 = .int .i64 (strN s cells p (tileAt s k) d) ∧ gg ⟨76000000, n0⟩ = some ⟨true, 4, [eWorld s temp cells]⟩ ∧ gg ⟨76003005, n0 + 1 + 1⟩ = some ⟨true, 6, [eCell (newC s p k)]⟩ := fun x1 x2 x3 x4 => ⟨_, by omega, d + 1, rfl, by omega, (by rw [x1, wrap_succ2 (by omega)]), x2, x3, x4⟩
    have hd : inB (d : Int) 0 3 = true := inB_of (by omega)
    have hme := meets_v s temp cells (newC s p k) d hd hS hSS hok.form hfc hR (by have := hok.few; omega)
    rw [meets_grip hSS hk hd] at hme
    have hgl := glue_v s temp cells (newC s p k) d hd hS hfc.t0 hfc.t1
    rw [show tileAt s (newC s p k).g_Tile = tileAt s k from rfl] at hgl
    generalize newC s p k = nc at *
    cases hg : gripB s cells p (tileAt s k) d
    · (repeat (first | ((first | apply w_seq | apply w_reg); intro N hN) | ((first | (apply w_op; intro N hN) | apply w_condB); simp only [go_sem, ↓reduceIte, Nat.reduceEqDiff, Nat.reduceAdd, Nat.reduceSub, Nat.reduceLeDiff, reduceCtorEq, a24, a8, ag0, ag1, a3, a7, hd4, hg, eWorld, eCell]; first | (refine hN _ _ ?_; clear hN N) | (rfl; change wpv _ _ _ _ _) | skip) | (apply w_nil; refine hN _ _ ?_; clear hN N; try (simp only [seqQ, blockQ, ↓reduceIte, Nat.reduceEqDiff]); try (refine hN _ _ ?_; clear hN N)) | apply w_block | ((first | apply w_skip | apply w_exit | apply w_ret); try (simp only [seqQ, blockQ, ↓reduceIte, Nat.reduceEqDiff]); try (refine hN _ _ ?_; clear hN N)) | ((first | refine hN _ _ ?_ | (clear hN N; first | refine hN _ _ ?_ | (clear hN N; first | refine hN _ _ ?_ | (clear hN N; first | refine hN _ _ ?_ | (clear hN N; refine hN _ _ ?_))))); clear hN N) | (refine .inl ⟨_, RetS.x (hme) ?_, ?_⟩; (focus (simp only [go_sem, ↓reduceIte, Nat.reduceEqDiff, Nat.reduceAdd, Nat.reduceSub, Nat.reduceLeDiff, reduceCtorEq, a24, a8, ag0, ag1, a3, a7, hd4, hg, eWorld, eCell]; done)); refine hN _ _ ?_; clear hN N)))
      refine nexta ?_ ?_ ?_ ?_
      all_goals simp only [go_sem, ↓reduceIte, Nat.reduceEqDiff, Nat.reduceAdd, Nat.reduceSub, Nat.reduceLeDiff, reduceCtorEq, a24, a8, ag0, ag1, a3, a7, strN, hg, eWorld, eCell]
    · have htm : tileAt s k ∈ s.g_Tiles := tN_mem hk
      have hon : bAt (tileAt s k).g_On d = true := by
        simp only [gripB, Bool.and_eq_true] at hg
        exact hg.2.1
      have hs1 := hSS.sides _ htm d hd
      have hs2 := hSS.on _ htm d hd hon
      have hgn : s.g_Glues.length ≤ 200 := hok.set.set.g
      have e1 : IntKind.i64.wrap (sideOf (tileAt s k) d - 1) = sideOf (tileAt s k) d - 1 := wrap_id (by omega)
      have e2 : 0 ≤ sideOf (tileAt s k) d - 1 := by omega
      have e3 : (s.g_Glues.map eGlue)[(sideOf (tileAt s k) d - 1).toNat]? = some (eGlue (s.g_Glues.getD (sideOf (tileAt s k) d - 1).toNat ⟨⟨#[]⟩, 0⟩)) := get_map eGlue (by omega)
      (repeat (first | ((first | apply w_seq | apply w_reg); intro N hN) | ((first | (apply w_op; intro N hN) | apply w_condB); simp only [go_sem, ↓reduceIte, Nat.reduceEqDiff, Nat.reduceAdd, Nat.reduceSub, Nat.reduceLeDiff, reduceCtorEq, a24, a8, ag0, ag1, a3, a7, hd4, hg, e1, e2, e3, eWorld, eCell, eGlue]; first | (refine hN _ _ ?_; clear hN N) | (rfl; change wpv _ _ _ _ _) | skip) | (apply w_nil; refine hN _ _ ?_; clear hN N; try (simp only [seqQ, blockQ, ↓reduceIte, Nat.reduceEqDiff]); try (refine hN _ _ ?_; clear hN N)) | apply w_block | ((first | apply w_skip | apply w_exit | apply w_ret); try (simp only [seqQ, blockQ, ↓reduceIte, Nat.reduceEqDiff]); try (refine hN _ _ ?_; clear hN N)) | ((first | refine hN _ _ ?_ | (clear hN N; first | refine hN _ _ ?_ | (clear hN N; first | refine hN _ _ ?_ | (clear hN N; first | refine hN _ _ ?_ | (clear hN N; refine hN _ _ ?_))))); clear hN N) | (refine .inl ⟨_, RetS.x (hme) ?_, ?_⟩; (focus (simp only [go_sem, ↓reduceIte, Nat.reduceEqDiff, Nat.reduceAdd, Nat.reduceSub, Nat.reduceLeDiff, reduceCtorEq, a24, a8, ag0, ag1, a3, a7, hd4, hg, e1, e2, e3, eWorld, eCell, eGlue]; done)); refine hN _ _ ?_; clear hN N) | (refine .inl ⟨_, RetS.x (hgl) ?_, ?_⟩; (focus (simp only [go_sem, ↓reduceIte, Nat.reduceEqDiff, Nat.reduceAdd, Nat.reduceSub, Nat.reduceLeDiff, reduceCtorEq, a24, a8, ag0, ag1, a3, a7, hd4, hg, e1, e2, e3, eWorld, eCell, eGlue]; done)); refine hN _ _ ?_; clear hN N)))
      refine nexta ?_ ?_ ?_ ?_
      all_goals simp only [go_sem, ↓reduceIte, Nat.reduceEqDiff, Nat.reduceAdd, Nat.reduceSub, Nat.reduceLeDiff, reduceCtorEq, a24, a8, ag0, ag1, a3, a7, strN, hg, gStr, eWorld, eCell]
  · have hd4' : d = 4 := by omega
    subst hd4'
    (repeat (first | ((first | apply w_seq | apply w_reg); intro N hN) | ((first | (apply w_op; intro N hN) | apply w_condB); simp only [go_sem, ↓reduceIte, Nat.reduceEqDiff, Nat.reduceAdd, Nat.reduceSub, Nat.reduceLeDiff, reduceCtorEq, a24, a8, ag0, ag1, a3, a7, hd4, eWorld]; first | (refine hN _ _ ?_; clear hN N) | (rfl; change wpv _ _ _ _ _) | skip) | (apply w_nil; refine hN _ _ ?_; clear hN N; try (simp only [seqQ, blockQ, ↓reduceIte, Nat.reduceEqDiff]); try (refine hN _ _ ?_; clear hN N)) | apply w_block | ((first | apply w_skip | apply w_exit | apply w_ret); try (simp only [seqQ, blockQ, ↓reduceIte, Nat.reduceEqDiff]); try (refine hN _ _ ?_; clear hN N)) | ((first | refine hN _ _ ?_ | (clear hN N; first | refine hN _ _ ?_ | (clear hN N; first | refine hN _ _ ?_ | (clear hN N; first | refine hN _ _ ?_ | (clear hN N; refine hN _ _ ?_))))); clear hN N)))
    exact ret1Sb (b := decide (temp ≤ strN s cells p (tileAt s k) 4)) (.inl rfl) (by simp only [go_sem, ↓reduceIte, Nat.reduceEqDiff, Nat.reduceAdd, Nat.reduceSub, Nat.reduceLeDiff, reduceCtorEq]) (by simp [hi, attB])


/-- A list of events so far: nil, or a row of one's own. -/
def OutV (e : AV) (g : Rows) (S : Nat → Prop) (L : List D_SignalEvent) : Prop := (L = [] ∧ e = .nils) ∨ ∃ o : Id, S o.site ∧ 0 < L.length ∧ e = .own o 0 L.length ∧ g o = some ⟨true, 4, L.map eEvent⟩
theorem OutV.cast {e : AV} {g : Rows} {S : Nat → Prop} {L L' : List D_SignalEvent} (h : OutV e g S L) (hL : L' = L) : OutV e g S L' := by subst hL; exact h
def InS (n : Nat) : Prop := n = 73006006 ∨ n = 73012006
theorem InS.ne {o : Id} (h : InS o.site) (s v : Nat) (h1 : ¬ (s = 73006006)) (h2 : ¬ (s = 73012006)) : (o = ⟨s, v⟩) = False := by
  simp only [eq_iff_iff, iff_false]; rintro rfl; rcases h with h | h <;> simp_all
theorem InS.ne' {o : Id} (h : InS o.site) (s v : Nat) (h1 : ¬ (s = 73006006)) (h2 : ¬ (s = 73012006)) : (⟨s, v⟩ = o) = False := sym_false (h.ne s v h1 h2)
/-- The first k of a cell's events, if they are possible. -/
def inL (s : D_SignalSet) (cells : List D_SignalCell) (c : D_SignalCell) (k : Nat) : List D_SignalEvent := ((allK c c.g_Fired.length).take k).filter (canB s cells c)
theorem inL_yes {s : D_SignalSet} {cells : List D_SignalCell} {c : D_SignalCell} {k : Nat} (h : k < 2 + c.g_Fired.length) (hp : canB s cells c (eA (allK c c.g_Fired.length) k) = true) : inL s cells c (k + 1) = inL s cells c k ++ [eA (allK c c.g_Fired.length) k] := by
  rw [inL, inL, filter_take_yes (by rw [allK_len]; exact h) hp]; rfl
theorem inL_no {s : D_SignalSet} {cells : List D_SignalCell} {c : D_SignalCell} {k : Nat} (h : k < 2 + c.g_Fired.length) (hp : canB s cells c (eA (allK c c.g_Fired.length) k) = false) : inL s cells c (k + 1) = inL s cells c k := by
  rw [inL, inL, filter_take_no (by rw [allK_len]; exact h) hp]
theorem inL_all (s : D_SignalSet) (cells : List D_SignalCell) (c : D_SignalCell) : inL s cells c (2 + c.g_Fired.length) = cellEvs s cells c := by
  rw [inL, cellEvs, ← allK_len c, List.take_length]
theorem inL_len (s : D_SignalSet) (cells : List D_SignalCell) (c : D_SignalCell) (k : Nat) : (inL s cells c k).length ≤ k := Nat.le_trans (List.length_filter_le _ _) (by rw [List.length_take]; omega)
theorem eA_bind (c : D_SignalCell) (n k : Nat) (h : k < 2) : eA (allK c n) k = ⟨2, c.g_At, k⟩ := by
  match k, h with
  | 0, _ => rfl
  | 1, _ => rfl
theorem eA_fire (c : D_SignalCell) (n m : Nat) (h : m < n) : eA (allK c n) (2 + m) = ⟨3, c.g_At, m⟩ := by
  rw [Nat.add_comm]
  simp [eA, allK, List.getD_eq_getElem?_getD, h]
theorem slN_of {α : Type} (e : α → List AV) (l : List α) : slN (l.map e) = if l = [] then .nils else .sl (l.map e) := by simp [slN]

set_option maxRecDepth 100000 in
set_option maxHeartbeats 8000000 in
theorem inner_v (s : D_SignalSet) (temp : Int) (cells : List D_SignalCell) (c : D_SignalCell) (hok : CellsOk s cells) (hc : FormOk s c) (h6 : c.g_Fired.length ≤ 6) :
    RetS Tryz.prog 73 [.agg (eWorld s temp cells), .agg (eCell c)] (slN ((cellEvs s cells c).map eEvent)) := by
  refine RetS.body cf73 rfl fun hl n0 => ?_
  try simp only [q]
  clear hl
  have q1 := hc.t0
  have q2 := hc.tile
  have hfr : c.g_Fired.length = (tileAt s c.g_Tile).g_Fires.length := hc.fired
  have ft := hok.set.form _ (tile_mem hc.t0 hc.t1)
  (repeat (first | ((first | apply w_seq | apply w_reg); intro N hN) | ((first | (apply w_op; intro N hN) | apply w_condB); simp only [go_sem, ↓reduceIte, Nat.reduceEqDiff, Nat.reduceAdd, Nat.reduceSub, Nat.reduceLeDiff, reduceCtorEq, eWorld, eCell]; first | (refine hN _ _ ?_; clear hN N) | (rfl; change wpv _ _ _ _ _) | skip) | (apply w_nil; refine hN _ _ ?_; clear hN N; try (simp only [seqQ, blockQ, ↓reduceIte, Nat.reduceEqDiff]); try (refine hN _ _ ?_; clear hN N)) | apply w_block | ((first | apply w_skip | apply w_exit | apply w_ret); try (simp only [seqQ, blockQ, ↓reduceIte, Nat.reduceEqDiff]); try (refine hN _ _ ?_; clear hN N)) | ((first | refine hN _ _ ?_ | (clear hN N; first | refine hN _ _ ?_ | (clear hN N; first | refine hN _ _ ?_ | (clear hN N; first | refine hN _ _ ?_ | (clear hN N; refine hN _ _ ?_))))); clear hN N)))
  refine w_loopF (fun n env st => ∃ k : Nat, n = (2) - k ∧ k ≤ (2) ∧ env 12 = .int .i64 (k : Int) ∧ (OutV (env 5) st.get InS (inL s cells c k)) ∧ st.get ⟨73000000, n0⟩ = some ⟨true, 4, [eWorld s temp cells]⟩ ∧ st.get ⟨73000001, n0⟩ = some ⟨true, 6, [eCell c]⟩ ∧ st.get ⟨73002000, n0 + 2⟩ = some ⟨true, 1, [[.int .i64 0], [.int .i64 1]]⟩) (2) ⟨0, by omega, by omega, by (try simp only [go_sem, ↓reduceIte, Nat.reduceEqDiff, Nat.reduceAdd, Nat.reduceSub, Nat.reduceLeDiff, reduceCtorEq, eWorld, eCell]); try rfl, .inl ⟨by simp [inL], by simp only [go_sem, ↓reduceIte, Nat.reduceEqDiff, Nat.reduceAdd, Nat.reduceSub, Nat.reduceLeDiff, reduceCtorEq]⟩, by (try simp only [go_sem, ↓reduceIte, Nat.reduceEqDiff, Nat.reduceAdd, Nat.reduceSub, Nat.reduceLeDiff, reduceCtorEq, eWorld, eCell]); try rfl, by (try simp only [go_sem, ↓reduceIte, Nat.reduceEqDiff, Nat.reduceAdd, Nat.reduceSub, Nat.reduceLeDiff, reduceCtorEq, eWorld, eCell]); try rfl, by (try simp only [go_sem, ↓reduceIte, Nat.reduceEqDiff, Nat.reduceAdd, Nat.reduceSub, Nat.reduceLeDiff, reduceCtorEq, eWorld, eCell]); try rfl⟩ ?_
  rintro n_a env_a st_a ⟨k, rfl, ale, a12, aI0, ag0, ag1, ag2⟩ afr
  have a2 := afr 2 (by kernel_rfl); have a3 := afr 3 (by kernel_rfl); have a10 := afr 10 (by kernel_rfl); have a11 := afr 11 (by kernel_rfl)
  simp only [go_sem, ↓reduceIte, Nat.reduceEqDiff, Nat.reduceAdd, Nat.reduceSub, Nat.reduceLeDiff, reduceCtorEq, eWorld, eCell] at a2 a3 a10 a11
  clear afr
  have hall := inL_len s cells c
  by_cases hk : (k : Int) < ((2 : Nat) : Int)
  · have nexta : ∀ {e : Env} {gg : Rows}, (e 12 = .int .i64 (IntKind.i64.wrap ((k : Int) + 1))) → (OutV (e 5) gg InS (inL s cells c (k + 1))) → (gg ⟨73000000, n0⟩ = some ⟨true, 4, [eWorld s temp cells]⟩) → (gg ⟨73000001, n0⟩ = some ⟨true, 6, [eCell c]⟩) → (gg ⟨73002000, n0 + 2⟩ = some ⟨true, 1, [[.int .i64 0], [.int .i64 1]]⟩) → ∃ m0, m0 < (2) - k ∧ ∃ k : Nat, m0 = (2) - k ∧ k ≤ (2) ∧ e 12 = .int .i64 (k : Int) ∧ (OutV (e 5) gg InS (inL s cells c k)) ∧ gg ⟨73000000, n0⟩ = some ⟨true, 4, [eWorld s temp cells]⟩ ∧ gg ⟨73000001, n0⟩ = some ⟨true, 6, [eCell c]⟩ ∧ gg ⟨73002000, n0 + 2⟩ = some ⟨true, 1, [[.int .i64 0], [.int .i64 1]]⟩ := fun x1 x2 x3 x4 x5 => ⟨_, by omega, k + 1, rfl, by omega, (by rw [x1, wrap_succ2 (by omega)]), x2, x3, x4, x5⟩
    have hkn : k < 2 := by omega
    have hd : inB (k : Int) 0 3 = true := inB_of (by omega)
    have hme := meets_v s temp cells c k hd hok.set.form hok.set.ssides hok.form hc hok.ris (by have := hok.few; omega)
    have hg0 : ([[AV.int .i64 0], [AV.int .i64 1]] : List (List AV))[k]? = some [.int .i64 k] := by
      match k, hkn with
      | 0, _ => rfl
      | 1, _ => rfl
    have b1 : (c.g_Bound.map eBool)[k]? = some (eBool (bAt c.g_Bound k)) := bool_get hc.bound hd
    have hev := eA_bind c c.g_Fired.length k hkn
    have hcan : canB s cells c (eA (allK c c.g_Fired.length) k) = (!bAt c.g_Bound k && meetsB s cells c k) := by rw [hev]; rfl
    have hlk : k < 2 + c.g_Fired.length := by omega
    have hm1 := hall k
    have hm2 : (inL s cells c k).length ≤ 16777215 := by omega
    cases hm : meetsB s cells c k
    · rw [hm, Bool.and_false] at hcan
      rcases aI0 with ⟨hL0, a5⟩ | ⟨o, hoS, hpos, a5, ao⟩
      · (repeat (first | ((first | apply w_seq | apply w_reg); intro N hN) | ((first | (apply w_op; intro N hN) | apply w_condB); simp only [go_sem, ↓reduceIte, Nat.reduceEqDiff, Nat.reduceAdd, Nat.reduceSub, Nat.reduceLeDiff, reduceCtorEq, a12, ag0, ag1, ag2, a2, a3, a10, a11, a5, hk, hg0, hm, eWorld, eCell]; first | (refine hN _ _ ?_; clear hN N) | (rfl; change wpv _ _ _ _ _) | skip) | (apply w_nil; refine hN _ _ ?_; clear hN N; try (simp only [seqQ, blockQ, ↓reduceIte, Nat.reduceEqDiff]); try (refine hN _ _ ?_; clear hN N)) | apply w_block | ((first | apply w_skip | apply w_exit | apply w_ret); try (simp only [seqQ, blockQ, ↓reduceIte, Nat.reduceEqDiff]); try (refine hN _ _ ?_; clear hN N)) | ((first | refine hN _ _ ?_ | (clear hN N; first | refine hN _ _ ?_ | (clear hN N; first | refine hN _ _ ?_ | (clear hN N; first | refine hN _ _ ?_ | (clear hN N; refine hN _ _ ?_))))); clear hN N) | (refine .inl ⟨_, RetS.x (hme) ?_, ?_⟩; (focus (simp only [go_sem, ↓reduceIte, Nat.reduceEqDiff, Nat.reduceAdd, Nat.reduceSub, Nat.reduceLeDiff, reduceCtorEq, a12, ag0, ag1, ag2, a2, a3, a10, a11, a5, hk, hg0, hm, eWorld, eCell]; done)); refine hN _ _ ?_; clear hN N)))
        refine nexta ?_ (OutV.cast (.inl ⟨hL0, by simp only [go_sem, ↓reduceIte, Nat.reduceEqDiff, Nat.reduceAdd, Nat.reduceSub, Nat.reduceLeDiff, reduceCtorEq, a5]⟩) (inL_no hlk hcan)) ?_ ?_ ?_
        all_goals simp only [go_sem, ↓reduceIte, Nat.reduceEqDiff, Nat.reduceAdd, Nat.reduceSub, Nat.reduceLeDiff, reduceCtorEq, a12, ag0, ag1, ag2, a2, a3, a10, a11, eWorld, eCell, eTile]
      · have x1 := InS.ne hoS
        have x2 := InS.ne' hoS
        (repeat (first | ((first | apply w_seq | apply w_reg); intro N hN) | ((first | (apply w_op; intro N hN) | apply w_condB); simp only [go_sem, ↓reduceIte, Nat.reduceEqDiff, Nat.reduceAdd, Nat.reduceSub, Nat.reduceLeDiff, reduceCtorEq, a12, ag0, ag1, ag2, a2, a3, a10, a11, a5, hk, hg0, hm, eWorld, eCell, x1, x2]; first | (refine hN _ _ ?_; clear hN N) | (rfl; change wpv _ _ _ _ _) | skip) | (apply w_nil; refine hN _ _ ?_; clear hN N; try (simp only [seqQ, blockQ, ↓reduceIte, Nat.reduceEqDiff]); try (refine hN _ _ ?_; clear hN N)) | apply w_block | ((first | apply w_skip | apply w_exit | apply w_ret); try (simp only [seqQ, blockQ, ↓reduceIte, Nat.reduceEqDiff]); try (refine hN _ _ ?_; clear hN N)) | ((first | refine hN _ _ ?_ | (clear hN N; first | refine hN _ _ ?_ | (clear hN N; first | refine hN _ _ ?_ | (clear hN N; first | refine hN _ _ ?_ | (clear hN N; refine hN _ _ ?_))))); clear hN N) | (refine .inl ⟨_, RetS.x (hme) ?_, ?_⟩; (focus (simp only [go_sem, ↓reduceIte, Nat.reduceEqDiff, Nat.reduceAdd, Nat.reduceSub, Nat.reduceLeDiff, reduceCtorEq, a12, ag0, ag1, ag2, a2, a3, a10, a11, a5, hk, hg0, hm, eWorld, eCell, x1, x2]; done)); refine hN _ _ ?_; clear hN N)))
        refine nexta ?_ (OutV.cast (.inr ⟨o, hoS, hpos, by simp only [go_sem, ↓reduceIte, Nat.reduceEqDiff, Nat.reduceAdd, Nat.reduceSub, Nat.reduceLeDiff, reduceCtorEq, a5], by simp only [go_sem, ↓reduceIte, Nat.reduceEqDiff, Nat.reduceAdd, Nat.reduceSub, Nat.reduceLeDiff, reduceCtorEq, ao, x1, x2]⟩) (inL_no hlk hcan)) ?_ ?_ ?_
        all_goals simp only [go_sem, ↓reduceIte, Nat.reduceEqDiff, Nat.reduceAdd, Nat.reduceSub, Nat.reduceLeDiff, reduceCtorEq, a12, ag0, ag1, ag2, a2, a3, a10, a11, eWorld, eCell, eTile, x1, x2]
    cases hb : bAt c.g_Bound k
    · rw [hm, hb] at hcan
      have e2 := map_snoc (inL s cells c k) ⟨2, c.g_At, k⟩
      rw [← hev, ← inL_yes hlk hcan, hev] at e2
      simp only [] at e2
      have e3 : (inL s cells c (k + 1)).length = (inL s cells c k).length + 1 := by rw [inL_yes hlk hcan]; simp
      rcases aI0 with ⟨hL0, a5⟩ | ⟨o, hoS, hpos, a5, ao⟩
      · rw [hL0, List.map_nil, List.nil_append] at e2
        (repeat (first | ((first | apply w_seq | apply w_reg); intro N hN) | ((first | (apply w_op; intro N hN) | apply w_condB); simp only [go_sem, ↓reduceIte, Nat.reduceEqDiff, Nat.reduceAdd, Nat.reduceSub, Nat.reduceLeDiff, reduceCtorEq, a12, ag0, ag1, ag2, a2, a3, a10, a11, a5, hk, hg0, b1, hm, hb, eWorld, eCell, eBool]; first | (refine hN _ _ ?_; clear hN N) | (rfl; change wpv _ _ _ _ _) | skip) | (apply w_nil; refine hN _ _ ?_; clear hN N; try (simp only [seqQ, blockQ, ↓reduceIte, Nat.reduceEqDiff]); try (refine hN _ _ ?_; clear hN N)) | apply w_block | ((first | apply w_skip | apply w_exit | apply w_ret); try (simp only [seqQ, blockQ, ↓reduceIte, Nat.reduceEqDiff]); try (refine hN _ _ ?_; clear hN N)) | ((first | refine hN _ _ ?_ | (clear hN N; first | refine hN _ _ ?_ | (clear hN N; first | refine hN _ _ ?_ | (clear hN N; first | refine hN _ _ ?_ | (clear hN N; refine hN _ _ ?_))))); clear hN N) | (refine .inl ⟨_, RetS.x (hme) ?_, ?_⟩; (focus (simp only [go_sem, ↓reduceIte, Nat.reduceEqDiff, Nat.reduceAdd, Nat.reduceSub, Nat.reduceLeDiff, reduceCtorEq, a12, ag0, ag1, ag2, a2, a3, a10, a11, a5, hk, hg0, b1, hm, hb, eWorld, eCell, eBool]; done)); refine hN _ _ ?_; clear hN N)))
        refine nexta ?_ (.inr ⟨⟨73006006, st_a.next + 1 + 1 + 1⟩, .inl rfl, by rw [e3]; omega, by simp only [go_sem, ↓reduceIte, Nat.reduceEqDiff, Nat.reduceAdd, Nat.reduceSub, Nat.reduceLeDiff, reduceCtorEq, e3, hL0], by simp only [go_sem, ↓reduceIte, Nat.reduceEqDiff, Nat.reduceAdd, Nat.reduceSub, Nat.reduceLeDiff, reduceCtorEq, e2]⟩) ?_ ?_ ?_
        all_goals simp only [go_sem, ↓reduceIte, Nat.reduceEqDiff, Nat.reduceAdd, Nat.reduceSub, Nat.reduceLeDiff, reduceCtorEq, a12, ag0, ag1, ag2, a2, a3, a10, a11, eWorld, eCell, eTile]
      · have x1 := InS.ne hoS
        have x2 := InS.ne' hoS
        (repeat (first | ((first | apply w_seq | apply w_reg); intro N hN) | ((first | (apply w_op; intro N hN) | apply w_condB); simp only [go_sem, ↓reduceIte, Nat.reduceEqDiff, Nat.reduceAdd, Nat.reduceSub, Nat.reduceLeDiff, reduceCtorEq, a12, ag0, ag1, ag2, a2, a3, a10, a11, a5, hk, hg0, b1, hm, hb, eWorld, eCell, eBool, ao, hm2, e2, x1, x2]; first | (refine hN _ _ ?_; clear hN N) | (rfl; change wpv _ _ _ _ _) | skip) | (apply w_nil; refine hN _ _ ?_; clear hN N; try (simp only [seqQ, blockQ, ↓reduceIte, Nat.reduceEqDiff]); try (refine hN _ _ ?_; clear hN N)) | apply w_block | ((first | apply w_skip | apply w_exit | apply w_ret); try (simp only [seqQ, blockQ, ↓reduceIte, Nat.reduceEqDiff]); try (refine hN _ _ ?_; clear hN N)) | ((first | refine hN _ _ ?_ | (clear hN N; first | refine hN _ _ ?_ | (clear hN N; first | refine hN _ _ ?_ | (clear hN N; first | refine hN _ _ ?_ | (clear hN N; refine hN _ _ ?_))))); clear hN N) | (refine .inl ⟨_, RetS.x (hme) ?_, ?_⟩; (focus (simp only [go_sem, ↓reduceIte, Nat.reduceEqDiff, Nat.reduceAdd, Nat.reduceSub, Nat.reduceLeDiff, reduceCtorEq, a12, ag0, ag1, ag2, a2, a3, a10, a11, a5, hk, hg0, b1, hm, hb, eWorld, eCell, eBool, ao, hm2, e2, x1, x2]; done)); refine hN _ _ ?_; clear hN N)))
        refine nexta ?_ (.inr ⟨⟨73006006, st_a.next + 1 + 1 + 1⟩, .inl rfl, by rw [e3]; omega, by simp only [go_sem, ↓reduceIte, Nat.reduceEqDiff, Nat.reduceAdd, Nat.reduceSub, Nat.reduceLeDiff, reduceCtorEq, e3], by simp only [go_sem, ↓reduceIte, Nat.reduceEqDiff, Nat.reduceAdd, Nat.reduceSub, Nat.reduceLeDiff, reduceCtorEq, e2]⟩) ?_ ?_ ?_
        all_goals simp only [go_sem, ↓reduceIte, Nat.reduceEqDiff, Nat.reduceAdd, Nat.reduceSub, Nat.reduceLeDiff, reduceCtorEq, a12, ag0, ag1, ag2, a2, a3, a10, a11, eWorld, eCell, eTile, x1, x2]
    · rw [hm, hb] at hcan
      rcases aI0 with ⟨hL0, a5⟩ | ⟨o, hoS, hpos, a5, ao⟩
      · (repeat (first | ((first | apply w_seq | apply w_reg); intro N hN) | ((first | (apply w_op; intro N hN) | apply w_condB); simp only [go_sem, ↓reduceIte, Nat.reduceEqDiff, Nat.reduceAdd, Nat.reduceSub, Nat.reduceLeDiff, reduceCtorEq, a12, ag0, ag1, ag2, a2, a3, a10, a11, a5, hk, hg0, b1, hm, hb, eWorld, eCell, eBool]; first | (refine hN _ _ ?_; clear hN N) | (rfl; change wpv _ _ _ _ _) | skip) | (apply w_nil; refine hN _ _ ?_; clear hN N; try (simp only [seqQ, blockQ, ↓reduceIte, Nat.reduceEqDiff]); try (refine hN _ _ ?_; clear hN N)) | apply w_block | ((first | apply w_skip | apply w_exit | apply w_ret); try (simp only [seqQ, blockQ, ↓reduceIte, Nat.reduceEqDiff]); try (refine hN _ _ ?_; clear hN N)) | ((first | refine hN _ _ ?_ | (clear hN N; first | refine hN _ _ ?_ | (clear hN N; first | refine hN _ _ ?_ | (clear hN N; first | refine hN _ _ ?_ | (clear hN N; refine hN _ _ ?_))))); clear hN N) | (refine .inl ⟨_, RetS.x (hme) ?_, ?_⟩; (focus (simp only [go_sem, ↓reduceIte, Nat.reduceEqDiff, Nat.reduceAdd, Nat.reduceSub, Nat.reduceLeDiff, reduceCtorEq, a12, ag0, ag1, ag2, a2, a3, a10, a11, a5, hk, hg0, b1, hm, hb, eWorld, eCell, eBool]; done)); refine hN _ _ ?_; clear hN N)))
        refine nexta ?_ (OutV.cast (.inl ⟨hL0, by simp only [go_sem, ↓reduceIte, Nat.reduceEqDiff, Nat.reduceAdd, Nat.reduceSub, Nat.reduceLeDiff, reduceCtorEq, a5]⟩) (inL_no hlk hcan)) ?_ ?_ ?_
        all_goals simp only [go_sem, ↓reduceIte, Nat.reduceEqDiff, Nat.reduceAdd, Nat.reduceSub, Nat.reduceLeDiff, reduceCtorEq, a12, ag0, ag1, ag2, a2, a3, a10, a11, eWorld, eCell, eTile]
      · have x1 := InS.ne hoS
        have x2 := InS.ne' hoS
        (repeat (first | ((first | apply w_seq | apply w_reg); intro N hN) | ((first | (apply w_op; intro N hN) | apply w_condB); simp only [go_sem, ↓reduceIte, Nat.reduceEqDiff, Nat.reduceAdd, Nat.reduceSub, Nat.reduceLeDiff, reduceCtorEq, a12, ag0, ag1, ag2, a2, a3, a10, a11, a5, hk, hg0, b1, hm, hb, eWorld, eCell, eBool, x1, x2]; first | (refine hN _ _ ?_; clear hN N) | (rfl; change wpv _ _ _ _ _) | skip) | (apply w_nil; refine hN _ _ ?_; clear hN N; try (simp only [seqQ, blockQ, ↓reduceIte, Nat.reduceEqDiff]); try (refine hN _ _ ?_; clear hN N)) | apply w_block | ((first | apply w_skip | apply w_exit | apply w_ret); try (simp only [seqQ, blockQ, ↓reduceIte, Nat.reduceEqDiff]); try (refine hN _ _ ?_; clear hN N)) | ((first | refine hN _ _ ?_ | (clear hN N; first | refine hN _ _ ?_ | (clear hN N; first | refine hN _ _ ?_ | (clear hN N; first | refine hN _ _ ?_ | (clear hN N; refine hN _ _ ?_))))); clear hN N) | (refine .inl ⟨_, RetS.x (hme) ?_, ?_⟩; (focus (simp only [go_sem, ↓reduceIte, Nat.reduceEqDiff, Nat.reduceAdd, Nat.reduceSub, Nat.reduceLeDiff, reduceCtorEq, a12, ag0, ag1, ag2, a2, a3, a10, a11, a5, hk, hg0, b1, hm, hb, eWorld, eCell, eBool, x1, x2]; done)); refine hN _ _ ?_; clear hN N)))
        refine nexta ?_ (OutV.cast (.inr ⟨o, hoS, hpos, by simp only [go_sem, ↓reduceIte, Nat.reduceEqDiff, Nat.reduceAdd, Nat.reduceSub, Nat.reduceLeDiff, reduceCtorEq, a5], by simp only [go_sem, ↓reduceIte, Nat.reduceEqDiff, Nat.reduceAdd, Nat.reduceSub, Nat.reduceLeDiff, reduceCtorEq, ao, x1, x2]⟩) (inL_no hlk hcan)) ?_ ?_ ?_
        all_goals simp only [go_sem, ↓reduceIte, Nat.reduceEqDiff, Nat.reduceAdd, Nat.reduceSub, Nat.reduceLeDiff, reduceCtorEq, a12, ag0, ag1, ag2, a2, a3, a10, a11, eWorld, eCell, eTile, x1, x2]
  have hkf : k = 2 := by omega
  subst hkf
  have q3 : (tileAt s c.g_Tile).g_Fires.length ≤ 6 := by omega
  have hI2 : OutV (env_a 5) st_a.get InS (inL s cells c (2 + 0)) := aI0
  (repeat (first | ((first | apply w_seq | apply w_reg); intro N hN) | ((first | (apply w_op; intro N hN) | apply w_condB); simp only [go_sem, ↓reduceIte, Nat.reduceEqDiff, Nat.reduceAdd, Nat.reduceSub, Nat.reduceLeDiff, reduceCtorEq, a12, ag0, ag1, ag2, a2, a3, a10, a11, hk, q1, q2, eWorld, eCell, eTile]; first | (refine hN _ _ ?_; clear hN N) | (rfl; change wpv _ _ _ _ _) | skip) | (apply w_nil; refine hN _ _ ?_; clear hN N; try (simp only [seqQ, blockQ, ↓reduceIte, Nat.reduceEqDiff]); try (refine hN _ _ ?_; clear hN N)) | apply w_block | ((first | apply w_skip | apply w_exit | apply w_ret); try (simp only [seqQ, blockQ, ↓reduceIte, Nat.reduceEqDiff]); try (refine hN _ _ ?_; clear hN N)) | ((first | refine hN _ _ ?_ | (clear hN N; first | refine hN _ _ ?_ | (clear hN N; first | refine hN _ _ ?_ | (clear hN N; first | refine hN _ _ ?_ | (clear hN N; refine hN _ _ ?_))))); clear hN N)))
  refine w_loopF (fun n env st => ∃ m : Nat, n = (c.g_Fired.length) - m ∧ m ≤ (c.g_Fired.length) ∧ env 45 = .int .i64 (m : Int) ∧ (OutV (env 5) st.get InS (inL s cells c (2 + m))) ∧ st.get ⟨73000000, n0⟩ = some ⟨true, 4, [eWorld s temp cells]⟩ ∧ st.get ⟨73000001, n0⟩ = some ⟨true, 6, [eCell c]⟩) (c.g_Fired.length) ⟨0, by omega, by omega, by (try simp only [go_sem, ↓reduceIte, Nat.reduceEqDiff, Nat.reduceAdd, Nat.reduceSub, Nat.reduceLeDiff, reduceCtorEq, a12, ag0, ag1, ag2, a2, a3, a10, a11, eWorld, eCell]); try rfl, by simpa [upd] using hI2, by (try simp only [go_sem, ↓reduceIte, Nat.reduceEqDiff, Nat.reduceAdd, Nat.reduceSub, Nat.reduceLeDiff, reduceCtorEq, a12, ag0, ag1, ag2, a2, a3, a10, a11, eWorld, eCell]); try rfl, by (try simp only [go_sem, ↓reduceIte, Nat.reduceEqDiff, Nat.reduceAdd, Nat.reduceSub, Nat.reduceLeDiff, reduceCtorEq, a12, ag0, ag1, ag2, a2, a3, a10, a11, eWorld, eCell]); try rfl⟩ ?_
  rintro n_b env_b st_b ⟨m, rfl, ble, b45, bI0, bg0, bg1⟩ bfr
  have b2 := bfr 2 (by kernel_rfl); have b3 := bfr 3 (by kernel_rfl); have b43 := bfr 43 (by kernel_rfl); have b44 := bfr 44 (by kernel_rfl)
  simp only [go_sem, ↓reduceIte, Nat.reduceEqDiff, Nat.reduceAdd, Nat.reduceSub, Nat.reduceLeDiff, reduceCtorEq, a12, ag0, ag1, ag2, a2, a3, a10, a11, eWorld, eCell] at b2 b3 b43 b44
  clear bfr
  clear hI2 aI0
  by_cases hmn : (m : Int) < (c.g_Fired.length : Int)
  · have nextb : ∀ {e : Env} {gg : Rows}, (e 45 = .int .i64 (IntKind.i64.wrap ((m : Int) + 1))) → (OutV (e 5) gg InS (inL s cells c (2 + (m + 1)))) → (gg ⟨73000000, n0⟩ = some ⟨true, 4, [eWorld s temp cells]⟩) → (gg ⟨73000001, n0⟩ = some ⟨true, 6, [eCell c]⟩) → ∃ m0, m0 < (c.g_Fired.length) - m ∧ ∃ m : Nat, m0 = (c.g_Fired.length) - m ∧ m ≤ (c.g_Fired.length) ∧ e 45 = .int .i64 (m : Int) ∧ (OutV (e 5) gg InS (inL s cells c (2 + m))) ∧ gg ⟨73000000, n0⟩ = some ⟨true, 4, [eWorld s temp cells]⟩ ∧ gg ⟨73000001, n0⟩ = some ⟨true, 6, [eCell c]⟩ := fun x1 x2 x3 x4 => ⟨_, by omega, m + 1, rfl, by omega, (by rw [x1, wrap_succ2 (by omega)]), x2, x3, x4⟩
    have hmk : m < c.g_Fired.length := by omega
    have hmt : (m : Int) < ((tileAt s c.g_Tile).g_Fires.length : Int) := by omega
    have g1 : ((tileAt s c.g_Tile).g_Fires.map eFire)[m]? = some (eFire (fireAt (tileAt s c.g_Tile) m)) := get_map eFire (by omega)
    have g2 : (c.g_Fired.map eBool)[m]? = some (eBool (bAt c.g_Fired m)) := get_map eBool (d := false) hmk
    have hfr2 := (ft.fires (fireAt (tileAt s c.g_Tile) m) (by
        have : m < (tileAt s c.g_Tile).g_Fires.length := by omega
        unfold fireAt
        rw [List.getD_eq_getElem?_getD, List.getElem?_eq_getElem this]
        exact List.getElem_mem this)).1
    have q9 := (inB_true hfr2).1
    have g3 : (c.g_Bound.map eBool)[(fireAt (tileAt s c.g_Tile) m).g_From.toNat]? = some (eBool (bAt c.g_Bound (fireAt (tileAt s c.g_Tile) m).g_From)) := bool_get hc.bound hfr2
    have hev := eA_fire c c.g_Fired.length m hmk
    have hcan : canB s cells c (eA (allK c c.g_Fired.length) (2 + m)) = (!bAt c.g_Fired m && bAt c.g_Bound (fireAt (tileAt s c.g_Tile) m).g_From) := by rw [hev]; rfl
    have hlk : 2 + m < 2 + c.g_Fired.length := by omega
    have hm2 : (inL s cells c (2 + m)).length ≤ 16777215 := by have := hall (2 + m); omega
    cases hfd : bAt c.g_Fired m
    case true =>
      rw [hfd] at hcan
      rcases bI0 with ⟨hL0, b5⟩ | ⟨o, hoS, hpos, b5, ao⟩
      · (repeat (first | ((first | apply w_seq | apply w_reg); intro N hN) | ((first | (apply w_op; intro N hN) | apply w_condB); simp only [go_sem, ↓reduceIte, Nat.reduceEqDiff, Nat.reduceAdd, Nat.reduceSub, Nat.reduceLeDiff, reduceCtorEq, b45, bg0, bg1, b2, b3, b43, b44, b5, hmt, g1, g2, hfd, eCell, eFire, eBool]; first | (refine hN _ _ ?_; clear hN N) | (rfl; change wpv _ _ _ _ _) | skip) | (apply w_nil; refine hN _ _ ?_; clear hN N; try (simp only [seqQ, blockQ, ↓reduceIte, Nat.reduceEqDiff]); try (refine hN _ _ ?_; clear hN N)) | apply w_block | ((first | apply w_skip | apply w_exit | apply w_ret); try (simp only [seqQ, blockQ, ↓reduceIte, Nat.reduceEqDiff]); try (refine hN _ _ ?_; clear hN N)) | ((first | refine hN _ _ ?_ | (clear hN N; first | refine hN _ _ ?_ | (clear hN N; first | refine hN _ _ ?_ | (clear hN N; first | refine hN _ _ ?_ | (clear hN N; refine hN _ _ ?_))))); clear hN N)))
        refine nextb ?_ (OutV.cast (.inl ⟨hL0, by simp only [go_sem, ↓reduceIte, Nat.reduceEqDiff, Nat.reduceAdd, Nat.reduceSub, Nat.reduceLeDiff, reduceCtorEq, b5]⟩) (inL_no hlk hcan)) ?_ ?_
        all_goals simp only [go_sem, ↓reduceIte, Nat.reduceEqDiff, Nat.reduceAdd, Nat.reduceSub, Nat.reduceLeDiff, reduceCtorEq, b45, bg0, bg1, b2, b3, b43, b44, eWorld, eCell, eTile]
      · have x1 := InS.ne hoS
        have x2 := InS.ne' hoS
        (repeat (first | ((first | apply w_seq | apply w_reg); intro N hN) | ((first | (apply w_op; intro N hN) | apply w_condB); simp only [go_sem, ↓reduceIte, Nat.reduceEqDiff, Nat.reduceAdd, Nat.reduceSub, Nat.reduceLeDiff, reduceCtorEq, b45, bg0, bg1, b2, b3, b43, b44, b5, hmt, g1, g2, hfd, eCell, eFire, eBool, x1, x2]; first | (refine hN _ _ ?_; clear hN N) | (rfl; change wpv _ _ _ _ _) | skip) | (apply w_nil; refine hN _ _ ?_; clear hN N; try (simp only [seqQ, blockQ, ↓reduceIte, Nat.reduceEqDiff]); try (refine hN _ _ ?_; clear hN N)) | apply w_block | ((first | apply w_skip | apply w_exit | apply w_ret); try (simp only [seqQ, blockQ, ↓reduceIte, Nat.reduceEqDiff]); try (refine hN _ _ ?_; clear hN N)) | ((first | refine hN _ _ ?_ | (clear hN N; first | refine hN _ _ ?_ | (clear hN N; first | refine hN _ _ ?_ | (clear hN N; first | refine hN _ _ ?_ | (clear hN N; refine hN _ _ ?_))))); clear hN N)))
        refine nextb ?_ (OutV.cast (.inr ⟨o, hoS, hpos, by simp only [go_sem, ↓reduceIte, Nat.reduceEqDiff, Nat.reduceAdd, Nat.reduceSub, Nat.reduceLeDiff, reduceCtorEq, b5], by simp only [go_sem, ↓reduceIte, Nat.reduceEqDiff, Nat.reduceAdd, Nat.reduceSub, Nat.reduceLeDiff, reduceCtorEq, ao, x1, x2]⟩) (inL_no hlk hcan)) ?_ ?_
        all_goals simp only [go_sem, ↓reduceIte, Nat.reduceEqDiff, Nat.reduceAdd, Nat.reduceSub, Nat.reduceLeDiff, reduceCtorEq, b45, bg0, bg1, b2, b3, b43, b44, eWorld, eCell, eTile, x1, x2]
    cases hbd : bAt c.g_Bound (fireAt (tileAt s c.g_Tile) m).g_From
    · rw [hfd, hbd] at hcan
      rcases bI0 with ⟨hL0, b5⟩ | ⟨o, hoS, hpos, b5, ao⟩
      · (repeat (first | ((first | apply w_seq | apply w_reg); intro N hN) | ((first | (apply w_op; intro N hN) | apply w_condB); simp only [go_sem, ↓reduceIte, Nat.reduceEqDiff, Nat.reduceAdd, Nat.reduceSub, Nat.reduceLeDiff, reduceCtorEq, b45, bg0, bg1, b2, b3, b43, b44, b5, hmt, g1, g2, g3, hfd, hbd, q9, eCell, eFire, eBool]; first | (refine hN _ _ ?_; clear hN N) | (rfl; change wpv _ _ _ _ _) | skip) | (apply w_nil; refine hN _ _ ?_; clear hN N; try (simp only [seqQ, blockQ, ↓reduceIte, Nat.reduceEqDiff]); try (refine hN _ _ ?_; clear hN N)) | apply w_block | ((first | apply w_skip | apply w_exit | apply w_ret); try (simp only [seqQ, blockQ, ↓reduceIte, Nat.reduceEqDiff]); try (refine hN _ _ ?_; clear hN N)) | ((first | refine hN _ _ ?_ | (clear hN N; first | refine hN _ _ ?_ | (clear hN N; first | refine hN _ _ ?_ | (clear hN N; first | refine hN _ _ ?_ | (clear hN N; refine hN _ _ ?_))))); clear hN N)))
        refine nextb ?_ (OutV.cast (.inl ⟨hL0, by simp only [go_sem, ↓reduceIte, Nat.reduceEqDiff, Nat.reduceAdd, Nat.reduceSub, Nat.reduceLeDiff, reduceCtorEq, b5]⟩) (inL_no hlk hcan)) ?_ ?_
        all_goals simp only [go_sem, ↓reduceIte, Nat.reduceEqDiff, Nat.reduceAdd, Nat.reduceSub, Nat.reduceLeDiff, reduceCtorEq, b45, bg0, bg1, b2, b3, b43, b44, eWorld, eCell, eTile]
      · have x1 := InS.ne hoS
        have x2 := InS.ne' hoS
        (repeat (first | ((first | apply w_seq | apply w_reg); intro N hN) | ((first | (apply w_op; intro N hN) | apply w_condB); simp only [go_sem, ↓reduceIte, Nat.reduceEqDiff, Nat.reduceAdd, Nat.reduceSub, Nat.reduceLeDiff, reduceCtorEq, b45, bg0, bg1, b2, b3, b43, b44, b5, hmt, g1, g2, g3, hfd, hbd, q9, eCell, eFire, eBool, x1, x2]; first | (refine hN _ _ ?_; clear hN N) | (rfl; change wpv _ _ _ _ _) | skip) | (apply w_nil; refine hN _ _ ?_; clear hN N; try (simp only [seqQ, blockQ, ↓reduceIte, Nat.reduceEqDiff]); try (refine hN _ _ ?_; clear hN N)) | apply w_block | ((first | apply w_skip | apply w_exit | apply w_ret); try (simp only [seqQ, blockQ, ↓reduceIte, Nat.reduceEqDiff]); try (refine hN _ _ ?_; clear hN N)) | ((first | refine hN _ _ ?_ | (clear hN N; first | refine hN _ _ ?_ | (clear hN N; first | refine hN _ _ ?_ | (clear hN N; first | refine hN _ _ ?_ | (clear hN N; refine hN _ _ ?_))))); clear hN N)))
        refine nextb ?_ (OutV.cast (.inr ⟨o, hoS, hpos, by simp only [go_sem, ↓reduceIte, Nat.reduceEqDiff, Nat.reduceAdd, Nat.reduceSub, Nat.reduceLeDiff, reduceCtorEq, b5], by simp only [go_sem, ↓reduceIte, Nat.reduceEqDiff, Nat.reduceAdd, Nat.reduceSub, Nat.reduceLeDiff, reduceCtorEq, ao, x1, x2]⟩) (inL_no hlk hcan)) ?_ ?_
        all_goals simp only [go_sem, ↓reduceIte, Nat.reduceEqDiff, Nat.reduceAdd, Nat.reduceSub, Nat.reduceLeDiff, reduceCtorEq, b45, bg0, bg1, b2, b3, b43, b44, eWorld, eCell, eTile, x1, x2]
    · rw [hfd, hbd] at hcan
      have e2 := map_snoc (inL s cells c (2 + m)) ⟨3, c.g_At, m⟩
      rw [← hev, ← inL_yes hlk hcan, hev, show 2 + m + 1 = 2 + (m + 1) from rfl] at e2
      simp only [] at e2
      have e3 : (inL s cells c (2 + (m + 1))).length = (inL s cells c (2 + m)).length + 1 := by rw [show 2 + (m + 1) = 2 + m + 1 from rfl, inL_yes hlk hcan]; simp
      rcases bI0 with ⟨hL0, b5⟩ | ⟨o, hoS, hpos, b5, ao⟩
      · rw [hL0, List.map_nil, List.nil_append] at e2
        (repeat (first | ((first | apply w_seq | apply w_reg); intro N hN) | ((first | (apply w_op; intro N hN) | apply w_condB); simp only [go_sem, ↓reduceIte, Nat.reduceEqDiff, Nat.reduceAdd, Nat.reduceSub, Nat.reduceLeDiff, reduceCtorEq, b45, bg0, bg1, b2, b3, b43, b44, b5, hmt, g1, g2, g3, hfd, hbd, q9, eCell, eFire, eBool]; first | (refine hN _ _ ?_; clear hN N) | (rfl; change wpv _ _ _ _ _) | skip) | (apply w_nil; refine hN _ _ ?_; clear hN N; try (simp only [seqQ, blockQ, ↓reduceIte, Nat.reduceEqDiff]); try (refine hN _ _ ?_; clear hN N)) | apply w_block | ((first | apply w_skip | apply w_exit | apply w_ret); try (simp only [seqQ, blockQ, ↓reduceIte, Nat.reduceEqDiff]); try (refine hN _ _ ?_; clear hN N)) | ((first | refine hN _ _ ?_ | (clear hN N; first | refine hN _ _ ?_ | (clear hN N; first | refine hN _ _ ?_ | (clear hN N; first | refine hN _ _ ?_ | (clear hN N; refine hN _ _ ?_))))); clear hN N)))
        refine nextb ?_ (.inr ⟨⟨73012006, st_b.next + 1 + 1 + 1⟩, .inr rfl, by rw [e3]; omega, by simp only [go_sem, ↓reduceIte, Nat.reduceEqDiff, Nat.reduceAdd, Nat.reduceSub, Nat.reduceLeDiff, reduceCtorEq, e3, hL0], by simp only [go_sem, ↓reduceIte, Nat.reduceEqDiff, Nat.reduceAdd, Nat.reduceSub, Nat.reduceLeDiff, reduceCtorEq, e2]⟩) ?_ ?_
        all_goals simp only [go_sem, ↓reduceIte, Nat.reduceEqDiff, Nat.reduceAdd, Nat.reduceSub, Nat.reduceLeDiff, reduceCtorEq, b45, bg0, bg1, b2, b3, b43, b44, eWorld, eCell, eTile]
      · have x1 := InS.ne hoS
        have x2 := InS.ne' hoS
        (repeat (first | ((first | apply w_seq | apply w_reg); intro N hN) | ((first | (apply w_op; intro N hN) | apply w_condB); simp only [go_sem, ↓reduceIte, Nat.reduceEqDiff, Nat.reduceAdd, Nat.reduceSub, Nat.reduceLeDiff, reduceCtorEq, b45, bg0, bg1, b2, b3, b43, b44, b5, hmt, g1, g2, g3, hfd, hbd, q9, eCell, eFire, eBool, ao, hm2, e2, x1, x2]; first | (refine hN _ _ ?_; clear hN N) | (rfl; change wpv _ _ _ _ _) | skip) | (apply w_nil; refine hN _ _ ?_; clear hN N; try (simp only [seqQ, blockQ, ↓reduceIte, Nat.reduceEqDiff]); try (refine hN _ _ ?_; clear hN N)) | apply w_block | ((first | apply w_skip | apply w_exit | apply w_ret); try (simp only [seqQ, blockQ, ↓reduceIte, Nat.reduceEqDiff]); try (refine hN _ _ ?_; clear hN N)) | ((first | refine hN _ _ ?_ | (clear hN N; first | refine hN _ _ ?_ | (clear hN N; first | refine hN _ _ ?_ | (clear hN N; first | refine hN _ _ ?_ | (clear hN N; refine hN _ _ ?_))))); clear hN N)))
        refine nextb ?_ (.inr ⟨⟨73012006, st_b.next + 1 + 1 + 1⟩, .inr rfl, by rw [e3]; omega, by simp only [go_sem, ↓reduceIte, Nat.reduceEqDiff, Nat.reduceAdd, Nat.reduceSub, Nat.reduceLeDiff, reduceCtorEq, e3], by simp only [go_sem, ↓reduceIte, Nat.reduceEqDiff, Nat.reduceAdd, Nat.reduceSub, Nat.reduceLeDiff, reduceCtorEq, e2]⟩) ?_ ?_
        all_goals simp only [go_sem, ↓reduceIte, Nat.reduceEqDiff, Nat.reduceAdd, Nat.reduceSub, Nat.reduceLeDiff, reduceCtorEq, b45, bg0, bg1, b2, b3, b43, b44, eWorld, eCell, eTile, x1, x2]
  have hmf : m = c.g_Fired.length := by omega
  subst hmf
  rw [inL_all] at bI0
  have hmt : ¬ ((c.g_Fired.length : Int) < ((tileAt s c.g_Tile).g_Fires.length : Int)) := by omega
  rcases bI0 with ⟨hL0, b5⟩ | ⟨o, hoS, hpos, b5, ao⟩
  · (repeat (first | ((first | apply w_seq | apply w_reg); intro N hN) | ((first | (apply w_op; intro N hN) | apply w_condB); simp only [go_sem, ↓reduceIte, Nat.reduceEqDiff, Nat.reduceAdd, Nat.reduceSub, Nat.reduceLeDiff, reduceCtorEq, b45, bg0, bg1, b2, b3, b43, b44, b5, hmt]; first | (refine hN _ _ ?_; clear hN N) | (rfl; change wpv _ _ _ _ _) | skip) | (apply w_nil; refine hN _ _ ?_; clear hN N; try (simp only [seqQ, blockQ, ↓reduceIte, Nat.reduceEqDiff]); try (refine hN _ _ ?_; clear hN N)) | apply w_block | ((first | apply w_skip | apply w_exit | apply w_ret); try (simp only [seqQ, blockQ, ↓reduceIte, Nat.reduceEqDiff]); try (refine hN _ _ ?_; clear hN N)) | ((first | refine hN _ _ ?_ | (clear hN N; first | refine hN _ _ ?_ | (clear hN N; first | refine hN _ _ ?_ | (clear hN N; first | refine hN _ _ ?_ | (clear hN N; refine hN _ _ ?_))))); clear hN N)))
    refine retGS (vs := [.nils]) (.inl rfl) (by simp only [vresL, vres1, go_sem, ↓reduceIte, Nat.reduceEqDiff, Nat.reduceAdd, Nat.reduceSub, Nat.reduceLeDiff, reduceCtorEq, b5]) ?_
    rw [hL0]; exact fzS_nils _ _
  · (repeat (first | ((first | apply w_seq | apply w_reg); intro N hN) | ((first | (apply w_op; intro N hN) | apply w_condB); simp only [go_sem, ↓reduceIte, Nat.reduceEqDiff, Nat.reduceAdd, Nat.reduceSub, Nat.reduceLeDiff, reduceCtorEq, b45, bg0, bg1, b2, b3, b43, b44, b5, hmt]; first | (refine hN _ _ ?_; clear hN N) | (rfl; change wpv _ _ _ _ _) | skip) | (apply w_nil; refine hN _ _ ?_; clear hN N; try (simp only [seqQ, blockQ, ↓reduceIte, Nat.reduceEqDiff]); try (refine hN _ _ ?_; clear hN N)) | apply w_block | ((first | apply w_skip | apply w_exit | apply w_ret); try (simp only [seqQ, blockQ, ↓reduceIte, Nat.reduceEqDiff]); try (refine hN _ _ ?_; clear hN N)) | ((first | refine hN _ _ ?_ | (clear hN N; first | refine hN _ _ ?_ | (clear hN N; first | refine hN _ _ ?_ | (clear hN N; first | refine hN _ _ ?_ | (clear hN N; refine hN _ _ ?_))))); clear hN N)))
    refine retGS (vs := [.own o 0 (cellEvs s cells c).length]) (.inl rfl) (by simp only [vresL, vres1, go_sem, ↓reduceIte, Nat.reduceEqDiff, Nat.reduceAdd, Nat.reduceSub, Nat.reduceLeDiff, reduceCtorEq, b5]) ?_
    rw [slN_of, if_neg (by intro h; rw [h] at hpos; simp at hpos)]
    exact fzS_own_map (e := eEvent) (sz := 4) ao rfl fun x => by simp [eEvent, fzSRow_cons, fzSRow_nil, fzS_int]

end Go.Proofs.YtpbniieiinhliaaGreat.V
