/- The program's new cell, and whether a tile attaches. -/
import Derived.Test.YtpbniieiinhliaaGreatRnN
import Derived.Test.YtpbniieiinhliaaGreatRnH
import Derived.Test.YtpbniieiinhliaaGreatRnK
import Derived.Test.YtpbniieiinhliaaGreatRnM
set_option linter.unusedVariables false
set_option linter.unusedSimpArgs false
namespace Go.Proofs.YtpbniieiinhliaaGreat.V
open Go.RowKit
attribute [local irreducible] wpv wpOps PCx Call
attribute [local go_sem] wantedV vop qop eop vis evO upd envOf K.av boxOf AV.cells AV.cell rowOf rowsOf part ld rowAt setR killR ibin vbin vsh vclear vsbin sbin eq1 eqL xorB vnil vnilS vnilF hiOf loOf vslice vsliceS viaddr vidxS vidxA vlen vnot vneg vconv vconvS vpick vchk vfield vextract vlenS fillV vmk rowsIn putCs vstore vappend seqQ blockQ most AV.undef callW locP locQ List.getD_cons_zero List.getD_cons_succ List.getD_nil List.all_cons List.all_nil Bool.and_true Bool.true_and Bool.and_self Bool.not_true Bool.not_false Option.map_some Option.map_none Option.bind_some Option.bind_none List.length_cons List.length_nil List.take_succ_cons List.take_zero List.take_nil List.drop_succ_cons List.drop_zero List.drop_nil List.head?_cons List.map_cons List.map_nil List.getElem?_cons_zero List.getElem?_cons_succ List.cons_append List.nil_append List.append_nil List.length_map List.set_cons_zero List.set_cons_succ Nat.reduceMul eq_self Int.toNat_natCast Int.natCast_nonneg and_self true_and and_true decide_true decide_false Bool.false_eq_true Nat.zero_add Nat.add_zero List.contains_cons List.contains_nil Bool.or_false Bool.false_or beq_self_eq_true Nat.reduceBEq ne_eq not_true_eq_false not_false_eq_true Id.mk.injEq false_and and_false Nat.reduceLT Int.reduceLE Int.reduceLT Int.reduceToNat Int.reduceNeg Int.reduceAdd Nat.le_refl List.length_append beq_true beq_false Bool.not_eq_eq_eq_not or_false false_or rw_ fzRow_cons fzRow_nil fz_int fz_bool fz_str fz_sl fz_nils fz_agg fz_iptr fz_ptrE fz_fn

def newC (s : D_SignalSet) (p : D_Point) (k : Nat) : D_SignalCell := ⟨p, k, (tN s k).g_On, List.replicate 4 false, List.replicate (tN s k).g_Fires.length false⟩
theorem newC_ok {s : D_SignalSet} (hok : SigSetOk s) {p : D_Point} (hp : ptB p = true) {k : Nat} (hk : k < s.g_Tiles.length) : FormOk s (newC s p k) :=
  ⟨hp, by show (0 : Int) ≤ (k : Int); omega, by show (k : Int) < _; omega, (hok.tiles k hk).on, by simp [newC], by simp [newC, tileAt_N]⟩

set_option maxRecDepth 100000 in
set_option maxHeartbeats 4000000 in
theorem newCell_v (s : D_SignalSet) (p : D_Point) (k : Nat) (hk : k < s.g_Tiles.length) (h1 : (tN s k).g_On.length ≤ 1048576) (h2 : (tN s k).g_Fires.length ≤ 1048576) :
    Ret Tryz.prog 94 [.agg (eSet s), .agg (ePoint p), .int .i64 k] (.agg (eCell (newC s p k))) := by
  refine Ret.body cfE rfl fun hl σ => ?_
  clear hl
  have g1 : (s.g_Tiles.map eTile)[k]? = some (eTile (tN s k)) := get_map eTile hk
  have hcl := cloneBool_v (tN s k).g_On h1
  have e1 : ((tN s k).g_Fires.length : Int) ≤ ((16777216 : Nat) : Int) := by omega
  have fb : ∀ (g : Rows) (x : Bool), fzRow g 4 (eBool x) = some (eBool x) := fun g x => by simp [eBool, fzRow_cons, fzRow_nil, fz_bool]
  have hn : newC s p k = ⟨p, k, (tN s k).g_On, List.replicate 4 false, List.replicate (tN s k).g_Fires.length false⟩ := rfl
  rw [hn]
  generalize tN s k = t at *
  have r1 := rep_false 4
  have r2 := rep_false t.g_Fires.length
  (repeat (first | ((repeat (revert hN; revert N; apply Pn.out)); refine wk (tw @eSet.eq_1 (tw @eTile.eq_1 (tw @ePoint.eq_1 (tw @g1 (tw @e1 (tw @rep_false @Int.le_refl)))))) ?_; (repeat (refine Pn.mk ?_; intro N hN))) | ((try apply Or.inl); refine ⟨_, Ret.x (hcl) _, ?_⟩; refine hN _ _ ?_; clear hN N)))
  refine retG (vs := [.agg [.int .i64 p.g_X, .int .i64 p.g_Y, .int .i64 k, .sl (t.g_On.map eBool), .own ⟨94002005, σ.next + 1 + 1⟩ 0 4, .own ⟨94002009, σ.next + 1 + 1⟩ 0 t.g_Fires.length]]) (.inl rfl) (by simp only [vresL, vres1, go_sem, ↓reduceIte, Nat.reduceEqDiff, Nat.reduceAdd, Nat.reduceSub, Nat.reduceLeDiff, reduceCtorEq]) ?_
  rw [tupOf, fz_agg, fzRow_cons, fz_int, fzRow_cons, fz_int, fzRow_cons, fz_int, fzRow_cons, fz_sl, fzRow_cons, fz_own_map (e := eBool) (l := List.replicate 4 false) (sz := 1) (len := 4) (sd @Nat.zero_add) rfl (fb _), fzRow_cons, fz_own_map (e := eBool) (l := List.replicate t.g_Fires.length false) (sz := 1) (len := t.g_Fires.length) (sd @Nat.zero_add) (by simp) (fb _), fzRow_nil]
  rfl

theorem meets_grip {s : D_SignalSet} (hSS : SetSides s) {cells : List D_SignalCell} {p : D_Point} {k : Nat} (hk : k < s.g_Tiles.length) {d : Int} (hd : inB d 0 3 = true) : meetsB s cells (newC s p k) d = gripB s cells p (tileAt s k) d := by
  have ht : tileAt s (newC s p k).g_Tile = tN s k := rfl
  have ht2 : tileAt s k = tN s k := rfl
  unfold meetsB gripB
  rw [ht, ht2]
  have hat : (newC s p k).g_At = p := rfl
  have hon : (newC s p k).g_On = (tN s k).g_On := rfl
  rw [hat, hon]
  by_cases h : idxN cells (stepP p d) < cells.length
  · rw [dif_pos h]
    have hn : nbrP cells p d = cells[idxN cells (stepP p d)] := by simp [nbrP, List.getD_eq_getElem?_getD, h]
    rw [hn]
    generalize cells[idxN cells (stepP p d)] = n
    simp only [h, decide_true, Bool.true_and]
    cases ho : bAt (tN s k).g_On d
    · simp
    · have h1 := hSS.on _ (tN_mem hk) d hd ho
      have h2 := (hSS.sides _ (tN_mem hk) d hd).1
      have h3 : 0 < sideOf (tN s k) d := by omega
      simp only [h3, decide_true, Bool.true_and]
      rw [Bool.and_comm]
      congr 1
      simp [eq_comm]
  · rw [dif_neg h]; simp [h]

def attachB (s : D_SignalSet) (temp : Int) (cells : List D_SignalCell) (p : D_Point) (k : Nat) : Bool := ptB p && (!decide (idxN cells p < cells.length) && attB s temp cells p k)

set_option maxRecDepth 100000 in
set_option maxHeartbeats 4000000 in
theorem attaches_v (s : D_SignalSet) (temp : Int) (cells : List D_SignalCell) (p : D_Point) (k : Nat) (hk : k < s.g_Tiles.length) (hok : CellsOk s cells) :
    RetS Tryz.prog 76 [.agg (eWorld s temp cells), .agg (ePoint p), .int .i64 k] (.bool (attachB s temp cells p k)) := by
  refine RetS.body cfE rfl fun hl n0 => ?_
  clear hl
  unfold attachB
  have hR : RisC cells := hok.ris
  have hat := at_v s temp cells p hR (by have := hok.few; omega)
  have hvp := validPoint_v p
  cases hp : ptB p
  · (repeat (first | ((repeat (revert hN; revert N; apply Pn.out)); refine wk (tw @eWorld.eq_1 (tw @ePoint.eq_1 @hp)) ?_; (repeat (refine Pn.mk ?_; intro N hN))) | ((try apply Or.inl); refine ⟨_, Ret.x (hvp) _, ?_⟩; refine hN _ _ ?_; clear hN N)))
    exact ret1Sb (b := false) (.inl rfl) (sd @Nat.zero_add) (by simp)
  by_cases hi : idxN cells p < cells.length
  · have hidx : idxI cells p = (idxN cells p : Int) := if_pos hi
    (repeat (first | ((repeat (revert hN; revert N; apply Pn.out)); refine wk (tw @eWorld.eq_1 (tw @ePoint.eq_1 (tw @hp @hidx))) ?_; (repeat (refine Pn.mk ?_; intro N hN))) | ((try apply Or.inl); refine ⟨_, Ret.x (hvp) _, ?_⟩; refine hN _ _ ?_; clear hN N) | ((try apply Or.inl); refine ⟨_, RetS.x (hat) (sd (tw @eWorld.eq_1 (tw @ePoint.eq_1 (tw @hp @hidx)))), ?_⟩; refine hN _ _ ?_; clear hN N)))
    exact ret1Sb (b := false) (.inl rfl) (sd @Nat.zero_add) (by simp [hi])
  have hidx : idxI cells p = -1 := if_neg hi
  have hng : ¬ ((0 : Int) ≤ -1) := by decide
  have hso := hok.set.tiles k hk
  have hnc := newCell_v s p k hk (by have := hso.on; omega) (by have := hso.few; omega)
  have hfc := newC_ok hok.set hp hk
  have hSS := hok.set.ssides
  have hS := hok.set.form
  (repeat (first | ((repeat (revert hN; revert N; apply Pn.out)); refine wk (tw @eWorld.eq_1 (tw @eSet.eq_1 (tw @ePoint.eq_1 (tw @hp (tw @hidx @hng))))) ?_; (repeat (refine Pn.mk ?_; intro N hN))) | ((try apply Or.inl); refine ⟨_, Ret.x (hvp) _, ?_⟩; refine hN _ _ ?_; clear hN N) | ((try apply Or.inl); refine ⟨_, RetS.x (hat) (sd (tw @eWorld.eq_1 (tw @eSet.eq_1 (tw @ePoint.eq_1 (tw @hp (tw @hidx @hng)))))), ?_⟩; refine hN _ _ ?_; clear hN N) | ((try apply Or.inl); refine ⟨_, Ret.x (hnc) _, ?_⟩; refine hN _ _ ?_; clear hN N)))
  refine w_loopF (fun n env st => ∃ d : Nat, n = (4) - d ∧ d ≤ (4) ∧ env 24 = .int .i64 (d : Int) ∧ env 8 = .int .i64 (strN s cells p (tileAt s k) d) ∧ st.get ⟨76000000, n0⟩ = some ⟨true, 4, [eWorld s temp cells]⟩ ∧ st.get ⟨76003005, n0 + 1 + 1⟩ = some ⟨true, 6, [eCell (newC s p k)]⟩) (4) ⟨0, by omega, by omega, by (try simp only [go_sem, ↓reduceIte, Nat.reduceEqDiff, Nat.reduceAdd, Nat.reduceSub, Nat.reduceLeDiff, reduceCtorEq, eWorld, eCell, strN]); try rfl, by (try simp only [go_sem, ↓reduceIte, Nat.reduceEqDiff, Nat.reduceAdd, Nat.reduceSub, Nat.reduceLeDiff, reduceCtorEq, eWorld, eCell, strN]); try rfl, by (try simp only [go_sem, ↓reduceIte, Nat.reduceEqDiff, Nat.reduceAdd, Nat.reduceSub, Nat.reduceLeDiff, reduceCtorEq, eWorld, eCell, strN]); try rfl, by (try simp only [go_sem, ↓reduceIte, Nat.reduceEqDiff, Nat.reduceAdd, Nat.reduceSub, Nat.reduceLeDiff, reduceCtorEq, eWorld, eCell, strN]); try rfl⟩ ?_
  rintro n_a env_a st_a ⟨d, rfl, ale, a24, a8, ag0, ag1⟩ afr
  have a3 := afr 3 (by kernel_rfl); have a7 := afr 7 (by kernel_rfl)
  simp only [go_sem, ↓reduceIte, Nat.reduceEqDiff, Nat.reduceAdd, Nat.reduceSub, Nat.reduceLeDiff, reduceCtorEq, eWorld, eCell, strN] at a3 a7
  clear afr
  by_cases hd4 : (d : Int) < 4
  · have nexta : ∀ {e : Env} {gg : Rows}, (e 24 = .int .i64 (IntKind.i64.wrap ((d : Int) + 1))) → (e 8 = .int .i64 (strN s cells p (tileAt s k) (d + 1))) → (gg ⟨76000000, n0⟩ = some ⟨true, 4, [eWorld s temp cells]⟩) → (gg ⟨76003005, n0 + 1 + 1⟩ = some ⟨true, 6, [eCell (newC s p k)]⟩) → ∃ m0, m0 < (4) - d ∧ ∃ d : Nat, m0 = (4) - d ∧ d ≤ (4) ∧ e 24 = .int .i64 (d : Int) ∧ e 8 = .int .i64 (strN s cells p (tileAt s k) d) ∧ gg ⟨76000000, n0⟩ = some ⟨true, 4, [eWorld s temp cells]⟩ ∧ gg ⟨76003005, n0 + 1 + 1⟩ = some ⟨true, 6, [eCell (newC s p k)]⟩ := fun x1 x2 x3 x4 => ⟨_, by omega, d + 1, rfl, by omega, (by rw [x1, wrap_succ2 (by omega)]), x2, x3, x4⟩
    have hd : inB (d : Int) 0 3 = true := inB_of (by omega)
    have hme := meets_v s temp cells (newC s p k) d hd hS hSS hok.form hfc hR (by have := hok.few; omega)
    rw [meets_grip hSS hk hd] at hme
    have hgl := glue_v s temp cells (newC s p k) d hd hS hfc.t0 hfc.t1
    rw [show tileAt s (newC s p k).g_Tile = tileAt s k from rfl] at hgl
    generalize newC s p k = nc at *
    cases hg : gripB s cells p (tileAt s k) d
    · (repeat (first | ((repeat (revert hN; revert N; apply Pn.out)); refine wk (tw @a24 (tw @a8 (tw @ag0 (tw @ag1 (tw @a3 (tw @a7 (tw @hd4 (tw @hg (tw @eWorld.eq_1 @eCell.eq_1))))))))) ?_; (repeat (refine Pn.mk ?_; intro N hN))) | ((try apply Or.inl); refine ⟨_, RetS.x (hme) (sd (tw @a24 (tw @a8 (tw @ag0 (tw @ag1 (tw @a3 (tw @a7 (tw @hd4 (tw @hg (tw @eWorld.eq_1 @eCell.eq_1)))))))))), ?_⟩; refine hN _ _ ?_; clear hN N)))
      refine nexta ?_ ?_ ?_ ?_
      all_goals simp only [go_sem, ↓reduceIte, Nat.reduceEqDiff, Nat.reduceAdd, Nat.reduceSub, Nat.reduceLeDiff, reduceCtorEq, a24, a8, ag0, ag1, a3, a7, strN, hg, eWorld, eCell]
    · have htm : tileAt s k ∈ s.g_Tiles := tN_mem hk
      have hon : bAt (tileAt s k).g_On d = true := by
        simp only [gripB, Bool.and_eq_true] at hg
        exact hg.2.1
      have hs1 := hSS.sides _ htm d hd
      have hs2 := hSS.on _ htm d hd hon
      have hgn : s.g_Glues.length ≤ 200 := hok.set.set.g
      have e1 : IntKind.i64.wrap (sideOf (tileAt s k) d - 1) = sideOf (tileAt s k) d - 1 := wrap_id (by omega)
      have e2 : 0 ≤ sideOf (tileAt s k) d - 1 := by omega
      have e3 : (s.g_Glues.map eGlue)[(sideOf (tileAt s k) d - 1).toNat]? = some (eGlue (s.g_Glues.getD (sideOf (tileAt s k) d - 1).toNat ⟨⟨#[]⟩, 0⟩)) := get_map eGlue (by omega)
      (repeat (first | ((repeat (revert hN; revert N; apply Pn.out)); refine wk (tw @a24 (tw @a8 (tw @ag0 (tw @ag1 (tw @a3 (tw @a7 (tw @hd4 (tw @hg (tw @e1 (tw @e2 (tw @e3 (tw @eWorld.eq_1 (tw @eCell.eq_1 @eGlue.eq_1))))))))))))) ?_; (repeat (refine Pn.mk ?_; intro N hN))) | ((try apply Or.inl); refine ⟨_, RetS.x (hme) (sd (tw @a24 (tw @a8 (tw @ag0 (tw @ag1 (tw @a3 (tw @a7 (tw @hd4 (tw @hg (tw @e1 (tw @e2 (tw @e3 (tw @eWorld.eq_1 (tw @eCell.eq_1 @eGlue.eq_1)))))))))))))), ?_⟩; refine hN _ _ ?_; clear hN N) | ((try apply Or.inl); refine ⟨_, RetS.x (hgl) (sd (tw @a24 (tw @a8 (tw @ag0 (tw @ag1 (tw @a3 (tw @a7 (tw @hd4 (tw @hg (tw @e1 (tw @e2 (tw @e3 (tw @eWorld.eq_1 (tw @eCell.eq_1 @eGlue.eq_1)))))))))))))), ?_⟩; refine hN _ _ ?_; clear hN N)))
      refine nexta ?_ ?_ ?_ ?_
      all_goals simp only [go_sem, ↓reduceIte, Nat.reduceEqDiff, Nat.reduceAdd, Nat.reduceSub, Nat.reduceLeDiff, reduceCtorEq, a24, a8, ag0, ag1, a3, a7, strN, hg, gStr, eWorld, eCell]
  · have hd4' : d = 4 := by omega
    subst hd4'
    (try ((repeat (revert hN; revert N; apply Pn.out)); refine wk (tw @a24 (tw @a8 (tw @ag0 (tw @ag1 (tw @a3 (tw @a7 (tw @hd4 @eWorld.eq_1))))))) ?_; (repeat (refine Pn.mk ?_; intro N hN))))
    exact ret1Sb (b := decide (temp ≤ strN s cells p (tileAt s k) 4)) (.inl rfl) (sd @Nat.zero_add) (by simp [hi, attB])


/-- A list of events so far: nil, or a row of one's own. -/
def OutV (e : AV) (g : Rows) (S : Nat → Prop) (L : List D_SignalEvent) : Prop := (L = [] ∧ e = .nils) ∨ ∃ o : Id, S o.site ∧ 0 < L.length ∧ e = .own o 0 L.length ∧ g o = some ⟨true, 4, L.map eEvent⟩
theorem OutV.cast {e : AV} {g : Rows} {S : Nat → Prop} {L L' : List D_SignalEvent} (h : OutV e g S L) (hL : L' = L) : OutV e g S L' := by subst hL; exact h
def InS (n : Nat) : Prop := n = 73006006 ∨ n = 73012006
theorem InS.ne {o : Id} (h : InS o.site) (s v : Nat) (h1 : ¬ (s = 73006006)) (h2 : ¬ (s = 73012006)) : (o = ⟨s, v⟩) = False := by
  simp only [eq_iff_iff, iff_false]; rintro rfl; rcases h with h | h <;> simp_all
theorem InS.ne' {o : Id} (h : InS o.site) (s v : Nat) (h1 : ¬ (s = 73006006)) (h2 : ¬ (s = 73012006)) : (⟨s, v⟩ = o) = False := sym_false (h.ne s v h1 h2)
/-- The first k of a cell's events, if they are possible. -/
def inL (s : D_SignalSet) (cells : List D_SignalCell) (c : D_SignalCell) (k : Nat) : List D_SignalEvent := ((allK c c.g_Fired.length).take k).filter (canB s cells c)
theorem inL_yes {s : D_SignalSet} {cells : List D_SignalCell} {c : D_SignalCell} {k : Nat} (h : k < 2 + c.g_Fired.length) (hp : canB s cells c (eA (allK c c.g_Fired.length) k) = true) : inL s cells c (k + 1) = inL s cells c k ++ [eA (allK c c.g_Fired.length) k] := by
  rw [inL, inL, filter_take_yes (by rw [allK_len]; exact h) hp]; rfl
theorem inL_no {s : D_SignalSet} {cells : List D_SignalCell} {c : D_SignalCell} {k : Nat} (h : k < 2 + c.g_Fired.length) (hp : canB s cells c (eA (allK c c.g_Fired.length) k) = false) : inL s cells c (k + 1) = inL s cells c k := by
  rw [inL, inL, filter_take_no (by rw [allK_len]; exact h) hp]
theorem inL_all (s : D_SignalSet) (cells : List D_SignalCell) (c : D_SignalCell) : inL s cells c (2 + c.g_Fired.length) = cellEvs s cells c := by
  rw [inL, cellEvs, ← allK_len c, List.take_length]
theorem inL_len (s : D_SignalSet) (cells : List D_SignalCell) (c : D_SignalCell) (k : Nat) : (inL s cells c k).length ≤ k := Nat.le_trans (List.length_filter_le _ _) (by rw [List.length_take]; omega)
theorem eA_bind (c : D_SignalCell) (n k : Nat) (h : k < 2) : eA (allK c n) k = ⟨2, c.g_At, k⟩ := by
  match k, h with
  | 0, _ => rfl
  | 1, _ => rfl
theorem eA_fire (c : D_SignalCell) (n m : Nat) (h : m < n) : eA (allK c n) (2 + m) = ⟨3, c.g_At, m⟩ := by
  rw [Nat.add_comm]
  simp [eA, allK, List.getD_eq_getElem?_getD, h]
theorem slN_of {α : Type} (e : α → List AV) (l : List α) : slN (l.map e) = if l = [] then .nils else .sl (l.map e) := by simp [slN]

set_option maxRecDepth 100000 in
set_option maxHeartbeats 8000000 in
theorem inner_v (s : D_SignalSet) (temp : Int) (cells : List D_SignalCell) (c : D_SignalCell) (hok : CellsOk s cells) (hc : FormOk s c) (h6 : c.g_Fired.length ≤ 6) :
    RetS Tryz.prog 73 [.agg (eWorld s temp cells), .agg (eCell c)] (slN ((cellEvs s cells c).map eEvent)) := by
  refine RetS.body cfE rfl fun hl n0 => ?_
  clear hl
  have q1 := hc.t0
  have q2 := hc.tile
  have hfr : c.g_Fired.length = (tileAt s c.g_Tile).g_Fires.length := hc.fired
  have ft := hok.set.form _ (tile_mem hc.t0 hc.t1)
  (try ((repeat (revert hN; revert N; apply Pn.out)); refine wk (tw @eWorld.eq_1 @eCell.eq_1) ?_; (repeat (refine Pn.mk ?_; intro N hN))))
  refine w_loopF (fun n env st => ∃ k : Nat, n = (2) - k ∧ k ≤ (2) ∧ env 12 = .int .i64 (k : Int) ∧ (OutV (env 5) st.get InS (inL s cells c k)) ∧ st.get ⟨73000000, n0⟩ = some ⟨true, 4, [eWorld s temp cells]⟩ ∧ st.get ⟨73000001, n0⟩ = some ⟨true, 6, [eCell c]⟩ ∧ st.get ⟨73002000, n0 + 2⟩ = some ⟨true, 1, [[.int .i64 0], [.int .i64 1]]⟩) (2) ⟨0, by omega, by omega, by (try simp only [go_sem, ↓reduceIte, Nat.reduceEqDiff, Nat.reduceAdd, Nat.reduceSub, Nat.reduceLeDiff, reduceCtorEq, eWorld, eCell]); try rfl, .inl ⟨by simp [inL], sd @Nat.zero_add⟩, by (try simp only [go_sem, ↓reduceIte, Nat.reduceEqDiff, Nat.reduceAdd, Nat.reduceSub, Nat.reduceLeDiff, reduceCtorEq, eWorld, eCell]); try rfl, by (try simp only [go_sem, ↓reduceIte, Nat.reduceEqDiff, Nat.reduceAdd, Nat.reduceSub, Nat.reduceLeDiff, reduceCtorEq, eWorld, eCell]); try rfl, by (try simp only [go_sem, ↓reduceIte, Nat.reduceEqDiff, Nat.reduceAdd, Nat.reduceSub, Nat.reduceLeDiff, reduceCtorEq, eWorld, eCell]); try rfl⟩ ?_
  rintro n_a env_a st_a ⟨k, rfl, ale, a12, aI0, ag0, ag1, ag2⟩ afr
  have a2 := afr 2 (by kernel_rfl); have a3 := afr 3 (by kernel_rfl); have a10 := afr 10 (by kernel_rfl); have a11 := afr 11 (by kernel_rfl)
  simp only [go_sem, ↓reduceIte, Nat.reduceEqDiff, Nat.reduceAdd, Nat.reduceSub, Nat.reduceLeDiff, reduceCtorEq, eWorld, eCell] at a2 a3 a10 a11
  clear afr
  have hall := inL_len s cells c
  by_cases hk : (k : Int) < ((2 : Nat) : Int)
  · have nexta : ∀ {e : Env} {gg : Rows}, (e 12 = .int .i64 (IntKind.i64.wrap ((k : Int) + 1))) → (OutV (e 5) gg InS (inL s cells c (k + 1))) → (gg ⟨73000000, n0⟩ = some ⟨true, 4, [eWorld s temp cells]⟩) → (gg ⟨73000001, n0⟩ = some ⟨true, 6, [eCell c]⟩) → (gg ⟨73002000, n0 + 2⟩ = some ⟨true, 1, [[.int .i64 0], [.int .i64 1]]⟩) → ∃ m0, m0 < (2) - k ∧ ∃ k : Nat, m0 = (2) - k ∧ k ≤ (2) ∧ e 12 = .int .i64 (k : Int) ∧ (OutV (e 5) gg InS (inL s cells c k)) ∧ gg ⟨73000000, n0⟩ = some ⟨true, 4, [eWorld s temp cells]⟩ ∧ gg ⟨73000001, n0⟩ = some ⟨true, 6, [eCell c]⟩ ∧ gg ⟨73002000, n0 + 2⟩ = some ⟨true, 1, [[.int .i64 0], [.int .i64 1]]⟩ := fun x1 x2 x3 x4 x5 => ⟨_, by omega, k + 1, rfl, by omega, (by rw [x1, wrap_succ2 (by omega)]), x2, x3, x4, x5⟩
    have hkn : k < 2 := by omega
    have hd : inB (k : Int) 0 3 = true := inB_of (by omega)
    have hme := meets_v s temp cells c k hd hok.set.form hok.set.ssides hok.form hc hok.ris (by have := hok.few; omega)
    have hg0 : ([[AV.int .i64 0], [AV.int .i64 1]] : List (List AV))[k]? = some [.int .i64 k] := by
      match k, hkn with
      | 0, _ => rfl
      | 1, _ => rfl
    have b1 : (c.g_Bound.map eBool)[k]? = some (eBool (bAt c.g_Bound k)) := bool_get hc.bound hd
    have hev := eA_bind c c.g_Fired.length k hkn
    have hcan : canB s cells c (eA (allK c c.g_Fired.length) k) = (!bAt c.g_Bound k && meetsB s cells c k) := by rw [hev]; rfl
    have hlk : k < 2 + c.g_Fired.length := by omega
    have hm1 := hall k
    have hm2 : (inL s cells c k).length ≤ 16777215 := by omega
    cases hm : meetsB s cells c k
    · rw [hm, Bool.and_false] at hcan
      rcases aI0 with ⟨hL0, a5⟩ | ⟨o, hoS, hpos, a5, ao⟩
      · (repeat (first | ((repeat (revert hN; revert N; apply Pn.out)); refine wk (tw @a12 (tw @ag0 (tw @ag1 (tw @ag2 (tw @a2 (tw @a3 (tw @a10 (tw @a11 (tw @a5 (tw @hk (tw @hg0 (tw @hm (tw @eWorld.eq_1 @eCell.eq_1))))))))))))) ?_; (repeat (refine Pn.mk ?_; intro N hN))) | ((try apply Or.inl); refine ⟨_, RetS.x (hme) (sd (tw @a12 (tw @ag0 (tw @ag1 (tw @ag2 (tw @a2 (tw @a3 (tw @a10 (tw @a11 (tw @a5 (tw @hk (tw @hg0 (tw @hm (tw @eWorld.eq_1 @eCell.eq_1)))))))))))))), ?_⟩; refine hN _ _ ?_; clear hN N)))
        refine nexta ?_ (OutV.cast (.inl ⟨hL0, sd @a5⟩) (inL_no hlk hcan)) ?_ ?_ ?_
        all_goals simp only [go_sem, ↓reduceIte, Nat.reduceEqDiff, Nat.reduceAdd, Nat.reduceSub, Nat.reduceLeDiff, reduceCtorEq, a12, ag0, ag1, ag2, a2, a3, a10, a11, eWorld, eCell, eTile]
      · have x1 := InS.ne hoS
        have x2 := InS.ne' hoS
        (repeat (first | ((repeat (revert hN; revert N; apply Pn.out)); refine wk (tw @a12 (tw @ag0 (tw @ag1 (tw @ag2 (tw @a2 (tw @a3 (tw @a10 (tw @a11 (tw @a5 (tw @hk (tw @hg0 (tw @hm (tw @eWorld.eq_1 (tw @eCell.eq_1 (tw @x1 @x2))))))))))))))) ?_; (repeat (refine Pn.mk ?_; intro N hN))) | ((try apply Or.inl); refine ⟨_, RetS.x (hme) (sd (tw @a12 (tw @ag0 (tw @ag1 (tw @ag2 (tw @a2 (tw @a3 (tw @a10 (tw @a11 (tw @a5 (tw @hk (tw @hg0 (tw @hm (tw @eWorld.eq_1 (tw @eCell.eq_1 (tw @x1 @x2)))))))))))))))), ?_⟩; refine hN _ _ ?_; clear hN N)))
        refine nexta ?_ (OutV.cast (.inr ⟨o, hoS, hpos, sd @a5, sd (tw @ao (tw @x1 @x2))⟩) (inL_no hlk hcan)) ?_ ?_ ?_
        all_goals simp only [go_sem, ↓reduceIte, Nat.reduceEqDiff, Nat.reduceAdd, Nat.reduceSub, Nat.reduceLeDiff, reduceCtorEq, a12, ag0, ag1, ag2, a2, a3, a10, a11, eWorld, eCell, eTile, x1, x2]
    cases hb : bAt c.g_Bound k
    · rw [hm, hb] at hcan
      have e2 := map_snoc (inL s cells c k) ⟨2, c.g_At, k⟩
      rw [← hev, ← inL_yes hlk hcan, hev] at e2
      simp only [] at e2
      have e3 : (inL s cells c (k + 1)).length = (inL s cells c k).length + 1 := by rw [inL_yes hlk hcan]; simp
      rcases aI0 with ⟨hL0, a5⟩ | ⟨o, hoS, hpos, a5, ao⟩
      · rw [hL0, List.map_nil, List.nil_append] at e2
        (repeat (first | ((repeat (revert hN; revert N; apply Pn.out)); refine wk (tw @a12 (tw @ag0 (tw @ag1 (tw @ag2 (tw @a2 (tw @a3 (tw @a10 (tw @a11 (tw @a5 (tw @hk (tw @hg0 (tw @b1 (tw @hm (tw @hb (tw @eWorld.eq_1 (tw @eCell.eq_1 @eBool.eq_1)))))))))))))))) ?_; (repeat (refine Pn.mk ?_; intro N hN))) | ((try apply Or.inl); refine ⟨_, RetS.x (hme) (sd (tw @a12 (tw @ag0 (tw @ag1 (tw @ag2 (tw @a2 (tw @a3 (tw @a10 (tw @a11 (tw @a5 (tw @hk (tw @hg0 (tw @b1 (tw @hm (tw @hb (tw @eWorld.eq_1 (tw @eCell.eq_1 @eBool.eq_1))))))))))))))))), ?_⟩; refine hN _ _ ?_; clear hN N)))
        refine nexta ?_ (.inr ⟨⟨73006006, st_a.next + 1 + 1 + 1⟩, .inl rfl, by rw [e3]; omega, sd (tw @e3 @hL0), sd @e2⟩) ?_ ?_ ?_
        all_goals simp only [go_sem, ↓reduceIte, Nat.reduceEqDiff, Nat.reduceAdd, Nat.reduceSub, Nat.reduceLeDiff, reduceCtorEq, a12, ag0, ag1, ag2, a2, a3, a10, a11, eWorld, eCell, eTile]
      · have x1 := InS.ne hoS
        have x2 := InS.ne' hoS
        (repeat (first | ((repeat (revert hN; revert N; apply Pn.out)); refine wk (tw @a12 (tw @ag0 (tw @ag1 (tw @ag2 (tw @a2 (tw @a3 (tw @a10 (tw @a11 (tw @a5 (tw @hk (tw @hg0 (tw @b1 (tw @hm (tw @hb (tw @eWorld.eq_1 (tw @eCell.eq_1 (tw @eBool.eq_1 (tw @ao (tw @hm2 (tw @e2 (tw @x1 @x2))))))))))))))))))))) ?_; (repeat (refine Pn.mk ?_; intro N hN))) | ((try apply Or.inl); refine ⟨_, RetS.x (hme) (sd (tw @a12 (tw @ag0 (tw @ag1 (tw @ag2 (tw @a2 (tw @a3 (tw @a10 (tw @a11 (tw @a5 (tw @hk (tw @hg0 (tw @b1 (tw @hm (tw @hb (tw @eWorld.eq_1 (tw @eCell.eq_1 (tw @eBool.eq_1 (tw @ao (tw @hm2 (tw @e2 (tw @x1 @x2)))))))))))))))))))))), ?_⟩; refine hN _ _ ?_; clear hN N)))
        refine nexta ?_ (.inr ⟨⟨73006006, st_a.next + 1 + 1 + 1⟩, .inl rfl, by rw [e3]; omega, sd @e3, sd @e2⟩) ?_ ?_ ?_
        all_goals simp only [go_sem, ↓reduceIte, Nat.reduceEqDiff, Nat.reduceAdd, Nat.reduceSub, Nat.reduceLeDiff, reduceCtorEq, a12, ag0, ag1, ag2, a2, a3, a10, a11, eWorld, eCell, eTile, x1, x2]
    · rw [hm, hb] at hcan
      rcases aI0 with ⟨hL0, a5⟩ | ⟨o, hoS, hpos, a5, ao⟩
      · (repeat (first | ((repeat (revert hN; revert N; apply Pn.out)); refine wk (tw @a12 (tw @ag0 (tw @ag1 (tw @ag2 (tw @a2 (tw @a3 (tw @a10 (tw @a11 (tw @a5 (tw @hk (tw @hg0 (tw @b1 (tw @hm (tw @hb (tw @eWorld.eq_1 (tw @eCell.eq_1 @eBool.eq_1)))))))))))))))) ?_; (repeat (refine Pn.mk ?_; intro N hN))) | ((try apply Or.inl); refine ⟨_, RetS.x (hme) (sd (tw @a12 (tw @ag0 (tw @ag1 (tw @ag2 (tw @a2 (tw @a3 (tw @a10 (tw @a11 (tw @a5 (tw @hk (tw @hg0 (tw @b1 (tw @hm (tw @hb (tw @eWorld.eq_1 (tw @eCell.eq_1 @eBool.eq_1))))))))))))))))), ?_⟩; refine hN _ _ ?_; clear hN N)))
        refine nexta ?_ (OutV.cast (.inl ⟨hL0, sd @a5⟩) (inL_no hlk hcan)) ?_ ?_ ?_
        all_goals simp only [go_sem, ↓reduceIte, Nat.reduceEqDiff, Nat.reduceAdd, Nat.reduceSub, Nat.reduceLeDiff, reduceCtorEq, a12, ag0, ag1, ag2, a2, a3, a10, a11, eWorld, eCell, eTile]
      · have x1 := InS.ne hoS
        have x2 := InS.ne' hoS
        (repeat (first | ((repeat (revert hN; revert N; apply Pn.out)); refine wk (tw @a12 (tw @ag0 (tw @ag1 (tw @ag2 (tw @a2 (tw @a3 (tw @a10 (tw @a11 (tw @a5 (tw @hk (tw @hg0 (tw @b1 (tw @hm (tw @hb (tw @eWorld.eq_1 (tw @eCell.eq_1 (tw @eBool.eq_1 (tw @x1 @x2)))))))))))))))))) ?_; (repeat (refine Pn.mk ?_; intro N hN))) | ((try apply Or.inl); refine ⟨_, RetS.x (hme) (sd (tw @a12 (tw @ag0 (tw @ag1 (tw @ag2 (tw @a2 (tw @a3 (tw @a10 (tw @a11 (tw @a5 (tw @hk (tw @hg0 (tw @b1 (tw @hm (tw @hb (tw @eWorld.eq_1 (tw @eCell.eq_1 (tw @eBool.eq_1 (tw @x1 @x2))))))))))))))))))), ?_⟩; refine hN _ _ ?_; clear hN N)))
        refine nexta ?_ (OutV.cast (.inr ⟨o, hoS, hpos, sd @a5, sd (tw @ao (tw @x1 @x2))⟩) (inL_no hlk hcan)) ?_ ?_ ?_
        all_goals simp only [go_sem, ↓reduceIte, Nat.reduceEqDiff, Nat.reduceAdd, Nat.reduceSub, Nat.reduceLeDiff, reduceCtorEq, a12, ag0, ag1, ag2, a2, a3, a10, a11, eWorld, eCell, eTile, x1, x2]
  have hkf : k = 2 := by omega
  subst hkf
  have q3 : (tileAt s c.g_Tile).g_Fires.length ≤ 6 := by omega
  have hI2 : OutV (env_a 5) st_a.get InS (inL s cells c (2 + 0)) := aI0
  (try ((repeat (revert hN; revert N; apply Pn.out)); refine wk (tw @a12 (tw @ag0 (tw @ag1 (tw @ag2 (tw @a2 (tw @a3 (tw @a10 (tw @a11 (tw @hk (tw @q1 (tw @q2 (tw @eWorld.eq_1 (tw @eCell.eq_1 @eTile.eq_1))))))))))))) ?_; (repeat (refine Pn.mk ?_; intro N hN))))
  refine w_loopF (fun n env st => ∃ m : Nat, n = (c.g_Fired.length) - m ∧ m ≤ (c.g_Fired.length) ∧ env 45 = .int .i64 (m : Int) ∧ (OutV (env 5) st.get InS (inL s cells c (2 + m))) ∧ st.get ⟨73000000, n0⟩ = some ⟨true, 4, [eWorld s temp cells]⟩ ∧ st.get ⟨73000001, n0⟩ = some ⟨true, 6, [eCell c]⟩) (c.g_Fired.length) ⟨0, by omega, by omega, by (try simp only [go_sem, ↓reduceIte, Nat.reduceEqDiff, Nat.reduceAdd, Nat.reduceSub, Nat.reduceLeDiff, reduceCtorEq, a12, ag0, ag1, ag2, a2, a3, a10, a11, eWorld, eCell]); try rfl, by simpa [upd] using hI2, by (try simp only [go_sem, ↓reduceIte, Nat.reduceEqDiff, Nat.reduceAdd, Nat.reduceSub, Nat.reduceLeDiff, reduceCtorEq, a12, ag0, ag1, ag2, a2, a3, a10, a11, eWorld, eCell]); try rfl, by (try simp only [go_sem, ↓reduceIte, Nat.reduceEqDiff, Nat.reduceAdd, Nat.reduceSub, Nat.reduceLeDiff, reduceCtorEq, a12, ag0, ag1, ag2, a2, a3, a10, a11, eWorld, eCell]); try rfl⟩ ?_
  rintro n_b env_b st_b ⟨m, rfl, ble, b45, bI0, bg0, bg1⟩ bfr
  have b2 := bfr 2 (by kernel_rfl); have b3 := bfr 3 (by kernel_rfl); have b43 := bfr 43 (by kernel_rfl); have b44 := bfr 44 (by kernel_rfl)
  simp only [go_sem, ↓reduceIte, Nat.reduceEqDiff, Nat.reduceAdd, Nat.reduceSub, Nat.reduceLeDiff, reduceCtorEq, a12, ag0, ag1, ag2, a2, a3, a10, a11, eWorld, eCell] at b2 b3 b43 b44
  clear bfr
  clear hI2 aI0
  by_cases hmn : (m : Int) < (c.g_Fired.length : Int)
  · have nextb : ∀ {e : Env} {gg : Rows}, (e 45 = .int .i64 (IntKind.i64.wrap ((m : Int) + 1))) → (OutV (e 5) gg InS (inL s cells c (2 + (m + 1)))) → (gg ⟨73000000, n0⟩ = some ⟨true, 4, [eWorld s temp cells]⟩) → (gg ⟨73000001, n0⟩ = some ⟨true, 6, [eCell c]⟩) → ∃ m0, m0 < (c.g_Fired.length) - m ∧ ∃ m : Nat, m0 = (c.g_Fired.length) - m ∧ m ≤ (c.g_Fired.length) ∧ e 45 = .int .i64 (m : Int) ∧ (OutV (e 5) gg InS (inL s cells c (2 + m))) ∧ gg ⟨73000000, n0⟩ = some ⟨true, 4, [eWorld s temp cells]⟩ ∧ gg ⟨73000001, n0⟩ = some ⟨true, 6, [eCell c]⟩ := fun x1 x2 x3 x4 => ⟨_, by omega, m + 1, rfl, by omega, (by rw [x1, wrap_succ2 (by omega)]), x2, x3, x4⟩
    have hmk : m < c.g_Fired.length := by omega
    have hmt : (m : Int) < ((tileAt s c.g_Tile).g_Fires.length : Int) := by omega
    have g1 : ((tileAt s c.g_Tile).g_Fires.map eFire)[m]? = some (eFire (fireAt (tileAt s c.g_Tile) m)) := get_map eFire (by omega)
    have g2 : (c.g_Fired.map eBool)[m]? = some (eBool (bAt c.g_Fired m)) := get_map eBool (d := false) hmk
    have hfr2 := (ft.fires (fireAt (tileAt s c.g_Tile) m) (by
        have : m < (tileAt s c.g_Tile).g_Fires.length := by omega
        unfold fireAt
        rw [List.getD_eq_getElem?_getD, List.getElem?_eq_getElem this]
        exact List.getElem_mem this)).1
    have q9 := (inB_true hfr2).1
    have g3 : (c.g_Bound.map eBool)[(fireAt (tileAt s c.g_Tile) m).g_From.toNat]? = some (eBool (bAt c.g_Bound (fireAt (tileAt s c.g_Tile) m).g_From)) := bool_get hc.bound hfr2
    have hev := eA_fire c c.g_Fired.length m hmk
    have hcan : canB s cells c (eA (allK c c.g_Fired.length) (2 + m)) = (!bAt c.g_Fired m && bAt c.g_Bound (fireAt (tileAt s c.g_Tile) m).g_From) := by rw [hev]; rfl
    have hlk : 2 + m < 2 + c.g_Fired.length := by omega
    have hm2 : (inL s cells c (2 + m)).length ≤ 16777215 := by have := hall (2 + m); omega
    cases hfd : bAt c.g_Fired m
    case true =>
      rw [hfd] at hcan
      rcases bI0 with ⟨hL0, b5⟩ | ⟨o, hoS, hpos, b5, ao⟩
      · (try ((repeat (revert hN; revert N; apply Pn.out)); refine wk (tw @b45 (tw @bg0 (tw @bg1 (tw @b2 (tw @b3 (tw @b43 (tw @b44 (tw @b5 (tw @hmt (tw @g1 (tw @g2 (tw @hfd (tw @eCell.eq_1 (tw @eFire.eq_1 @eBool.eq_1)))))))))))))) ?_; (repeat (refine Pn.mk ?_; intro N hN))))
        refine nextb ?_ (OutV.cast (.inl ⟨hL0, sd @b5⟩) (inL_no hlk hcan)) ?_ ?_
        all_goals simp only [go_sem, ↓reduceIte, Nat.reduceEqDiff, Nat.reduceAdd, Nat.reduceSub, Nat.reduceLeDiff, reduceCtorEq, b45, bg0, bg1, b2, b3, b43, b44, eWorld, eCell, eTile]
      · have x1 := InS.ne hoS
        have x2 := InS.ne' hoS
        (try ((repeat (revert hN; revert N; apply Pn.out)); refine wk (tw @b45 (tw @bg0 (tw @bg1 (tw @b2 (tw @b3 (tw @b43 (tw @b44 (tw @b5 (tw @hmt (tw @g1 (tw @g2 (tw @hfd (tw @eCell.eq_1 (tw @eFire.eq_1 (tw @eBool.eq_1 (tw @x1 @x2)))))))))))))))) ?_; (repeat (refine Pn.mk ?_; intro N hN))))
        refine nextb ?_ (OutV.cast (.inr ⟨o, hoS, hpos, sd @b5, sd (tw @ao (tw @x1 @x2))⟩) (inL_no hlk hcan)) ?_ ?_
        all_goals simp only [go_sem, ↓reduceIte, Nat.reduceEqDiff, Nat.reduceAdd, Nat.reduceSub, Nat.reduceLeDiff, reduceCtorEq, b45, bg0, bg1, b2, b3, b43, b44, eWorld, eCell, eTile, x1, x2]
    cases hbd : bAt c.g_Bound (fireAt (tileAt s c.g_Tile) m).g_From
    · rw [hfd, hbd] at hcan
      rcases bI0 with ⟨hL0, b5⟩ | ⟨o, hoS, hpos, b5, ao⟩
      · (try ((repeat (revert hN; revert N; apply Pn.out)); refine wk (tw @b45 (tw @bg0 (tw @bg1 (tw @b2 (tw @b3 (tw @b43 (tw @b44 (tw @b5 (tw @hmt (tw @g1 (tw @g2 (tw @g3 (tw @hfd (tw @hbd (tw @q9 (tw @eCell.eq_1 (tw @eFire.eq_1 @eBool.eq_1))))))))))))))))) ?_; (repeat (refine Pn.mk ?_; intro N hN))))
        refine nextb ?_ (OutV.cast (.inl ⟨hL0, sd @b5⟩) (inL_no hlk hcan)) ?_ ?_
        all_goals simp only [go_sem, ↓reduceIte, Nat.reduceEqDiff, Nat.reduceAdd, Nat.reduceSub, Nat.reduceLeDiff, reduceCtorEq, b45, bg0, bg1, b2, b3, b43, b44, eWorld, eCell, eTile]
      · have x1 := InS.ne hoS
        have x2 := InS.ne' hoS
        (try ((repeat (revert hN; revert N; apply Pn.out)); refine wk (tw @b45 (tw @bg0 (tw @bg1 (tw @b2 (tw @b3 (tw @b43 (tw @b44 (tw @b5 (tw @hmt (tw @g1 (tw @g2 (tw @g3 (tw @hfd (tw @hbd (tw @q9 (tw @eCell.eq_1 (tw @eFire.eq_1 (tw @eBool.eq_1 (tw @x1 @x2))))))))))))))))))) ?_; (repeat (refine Pn.mk ?_; intro N hN))))
        refine nextb ?_ (OutV.cast (.inr ⟨o, hoS, hpos, sd @b5, sd (tw @ao (tw @x1 @x2))⟩) (inL_no hlk hcan)) ?_ ?_
        all_goals simp only [go_sem, ↓reduceIte, Nat.reduceEqDiff, Nat.reduceAdd, Nat.reduceSub, Nat.reduceLeDiff, reduceCtorEq, b45, bg0, bg1, b2, b3, b43, b44, eWorld, eCell, eTile, x1, x2]
    · rw [hfd, hbd] at hcan
      have e2 := map_snoc (inL s cells c (2 + m)) ⟨3, c.g_At, m⟩
      rw [← hev, ← inL_yes hlk hcan, hev, show 2 + m + 1 = 2 + (m + 1) from rfl] at e2
      simp only [] at e2
      have e3 : (inL s cells c (2 + (m + 1))).length = (inL s cells c (2 + m)).length + 1 := by rw [show 2 + (m + 1) = 2 + m + 1 from rfl, inL_yes hlk hcan]; simp
      rcases bI0 with ⟨hL0, b5⟩ | ⟨o, hoS, hpos, b5, ao⟩
      · rw [hL0, List.map_nil, List.nil_append] at e2
        (try ((repeat (revert hN; revert N; apply Pn.out)); refine wk (tw @b45 (tw @bg0 (tw @bg1 (tw @b2 (tw @b3 (tw @b43 (tw @b44 (tw @b5 (tw @hmt (tw @g1 (tw @g2 (tw @g3 (tw @hfd (tw @hbd (tw @q9 (tw @eCell.eq_1 (tw @eFire.eq_1 @eBool.eq_1))))))))))))))))) ?_; (repeat (refine Pn.mk ?_; intro N hN))))
        refine nextb ?_ (.inr ⟨⟨73012006, st_b.next + 1 + 1 + 1⟩, .inr rfl, by rw [e3]; omega, sd (tw @e3 @hL0), sd @e2⟩) ?_ ?_
        all_goals simp only [go_sem, ↓reduceIte, Nat.reduceEqDiff, Nat.reduceAdd, Nat.reduceSub, Nat.reduceLeDiff, reduceCtorEq, b45, bg0, bg1, b2, b3, b43, b44, eWorld, eCell, eTile]
      · have x1 := InS.ne hoS
        have x2 := InS.ne' hoS
        (try ((repeat (revert hN; revert N; apply Pn.out)); refine wk (tw @b45 (tw @bg0 (tw @bg1 (tw @b2 (tw @b3 (tw @b43 (tw @b44 (tw @b5 (tw @hmt (tw @g1 (tw @g2 (tw @g3 (tw @hfd (tw @hbd (tw @q9 (tw @eCell.eq_1 (tw @eFire.eq_1 (tw @eBool.eq_1 (tw @ao (tw @hm2 (tw @e2 (tw @x1 @x2)))))))))))))))))))))) ?_; (repeat (refine Pn.mk ?_; intro N hN))))
        refine nextb ?_ (.inr ⟨⟨73012006, st_b.next + 1 + 1 + 1⟩, .inr rfl, by rw [e3]; omega, sd @e3, sd @e2⟩) ?_ ?_
        all_goals simp only [go_sem, ↓reduceIte, Nat.reduceEqDiff, Nat.reduceAdd, Nat.reduceSub, Nat.reduceLeDiff, reduceCtorEq, b45, bg0, bg1, b2, b3, b43, b44, eWorld, eCell, eTile, x1, x2]
  have hmf : m = c.g_Fired.length := by omega
  subst hmf
  rw [inL_all] at bI0
  have hmt : ¬ ((c.g_Fired.length : Int) < ((tileAt s c.g_Tile).g_Fires.length : Int)) := by omega
  rcases bI0 with ⟨hL0, b5⟩ | ⟨o, hoS, hpos, b5, ao⟩
  · (try ((repeat (revert hN; revert N; apply Pn.out)); refine wk (tw @b45 (tw @bg0 (tw @bg1 (tw @b2 (tw @b3 (tw @b43 (tw @b44 (tw @b5 @hmt)))))))) ?_; (repeat (refine Pn.mk ?_; intro N hN))))
    refine retGS (vs := [.nils]) (.inl rfl) (by simp only [vresL, vres1, go_sem, ↓reduceIte, Nat.reduceEqDiff, Nat.reduceAdd, Nat.reduceSub, Nat.reduceLeDiff, reduceCtorEq, b5]) ?_
    rw [hL0]; exact fzS_nils _ _
  · (try ((repeat (revert hN; revert N; apply Pn.out)); refine wk (tw @b45 (tw @bg0 (tw @bg1 (tw @b2 (tw @b3 (tw @b43 (tw @b44 (tw @b5 @hmt)))))))) ?_; (repeat (refine Pn.mk ?_; intro N hN))))
    refine retGS (vs := [.own o 0 (cellEvs s cells c).length]) (.inl rfl) (by simp only [vresL, vres1, go_sem, ↓reduceIte, Nat.reduceEqDiff, Nat.reduceAdd, Nat.reduceSub, Nat.reduceLeDiff, reduceCtorEq, b5]) ?_
    rw [slN_of, if_neg (by intro h; rw [h] at hpos; simp at hpos)]
    exact fzS_own_map (e := eEvent) (sz := 4) ao rfl fun x => by simp [eEvent, fzSRow_cons, fzSRow_nil, fzS_int]


theorem plainB (l : List Bool) : ∀ c ∈ l.map eBool, ∀ a ∈ c, a.plain = true := fun c hc a ha => by
  obtain ⟨x, _, rfl⟩ := List.mem_map.1 hc
  simp [eBool] at ha; subst ha; rfl

set_option maxRecDepth 100000 in
set_option maxHeartbeats 4000000 in
theorem cloneBool_m (l : List Bool) (h0 : 0 < l.length) (hl : l.length ≤ 1000) : RowM Tryz.prog 98 [.sl (l.map eBool)] 1 (l.map eBool) := by
  refine ⟨plainB l, fun n => ?_⟩
  refine CallB cfE rfl fun _ => ?_
  have g2 : ∀ l : List Bool, (l.map eBool).all (fun c => c.length == 1 && c.all AV.cell) = true := fun l => all_map fun x => ⟨rfl, rfl⟩
  have e1 : l.length ≤ 16777216 := by omega
  obtain ⟨b, l, rfl⟩ : ∃ b r, l = b :: r := by cases l with
    | nil => simp at h0
    | cons b r => exact ⟨b, r, rfl⟩
  simp only [List.map_cons, List.length_cons] at *
  have e2 : l.length ≤ 16777215 := by omega
  (try ((repeat (revert hN; revert N; apply Pn.out)); refine wk (tw @g2 (tw @e2 @eBool.eq_1)) ?_; (repeat (refine Pn.mk ?_; intro N hN))))
  exact retO (.inl rfl) (by simp only [vresL, vres1, go_sem, ↓reduceIte, Nat.reduceEqDiff, Nat.reduceAdd, Nat.reduceSub, Nat.reduceLeDiff, reduceCtorEq]; rfl) ⟨⟨98003002, n + 1 + 1⟩, by simp only [go_sem, ↓reduceIte, Nat.reduceEqDiff, Nat.reduceAdd, Nat.reduceSub, Nat.reduceLeDiff, reduceCtorEq]; rfl, by simp only [go_sem, ↓reduceIte, Nat.reduceEqDiff, Nat.reduceAdd, Nat.reduceSub, Nat.reduceLeDiff, reduceCtorEq]; rfl⟩


set_option maxRecDepth 100000 in
set_option maxHeartbeats 4000000 in
theorem newCellO_v (s : D_SignalSet) (p : D_Point) (k : Int) (hk0 : 0 ≤ k) (hk : k < s.g_Tiles.length) (hT : TileForm (tileAt s k)) (h6 : (tileAt s k).g_Fires.length ≤ 6) (σ : Store) :
    Call Tryz.prog 94 [.agg (eSet s), .agg (ePoint p), .int .i64 k] σ (NewCellK (bornC s p k) σ) := by
  refine CallBM (cfM [(2, 1)]) rfl fun hl => ?_
  clear hl
  have g1 : (s.g_Tiles.map eTile)[k.toNat]? = some (eTile (tileAt s k)) := get_map eTile (toNat_lt hk hk0)
  have h4 := hT.on
  have hnc : bornC s p k = ⟨p, k, (tileAt s k).g_On, List.replicate 4 false, List.replicate (tileAt s k).g_Fires.length false⟩ := rfl
  generalize tileAt s k = t at *
  have hcl := cloneBool_m t.g_On (by omega) (by omega)
  have e5 : (t.g_Fires.length : Int) ≤ ((16777216 : Nat) : Int) := by omega
  (repeat (first | ((repeat (revert hN; revert N; apply Pn.out)); refine wk (tw @hk0 (tw @g1 (tw @e5 (tw @Int.le_refl (tw @eSet.eq_1 (tw @eTile.eq_1 @ePoint.eq_1)))))) ?_; (repeat (refine Pn.mk ?_; intro N hN))) | (refine .inr ⟨_, _, RowM.x (hcl) (sd (tw @hk0 (tw @g1 (tw @e5 (tw @Int.le_refl (tw @eSet.eq_1 (tw @eTile.eq_1 @ePoint.eq_1))))))), ?_⟩; refine hN _ _ ?_; clear hN N)))
  refine retO (vs := [.agg [.int .i64 p.g_X, .int .i64 p.g_Y, .int .i64 k, .own ⟨94002004, σ.next + 1 + 1⟩ 0 t.g_On.length, .own ⟨94002005, σ.next + 1 + 1⟩ 0 4, .own ⟨94002009, σ.next + 1 + 1⟩ 0 t.g_Fires.length]]) (.inl rfl) (by simp only [vresL, vres1, go_sem, ↓reduceIte, Nat.reduceEqDiff, Nat.reduceAdd, Nat.reduceSub, Nat.reduceLeDiff, reduceCtorEq]) ?_
  rw [hnc]
  refine ⟨_, _, rfl, ⟨_, _, _, _, _, _, rfl, .inl ⟨_, rfl, sd @Nat.zero_add, rfl⟩, .inl ⟨_, rfl, sd @rep_false, rfl⟩, .inl ⟨_, by rw [List.length_replicate], sd @rep_false, rfl⟩, rfl⟩, ⟨by simp, fun i hi => ?_⟩, by simp; omega, fun j hj => sd (vne hj)⟩
  simp at hi
  rcases hi with rfl | rfl | rfl <;> simp <;> omega

/-- A copy of a world, with cells of the caller's own. -/
def CloneK (s : D_SignalSet) (temp : Int) (cells : List D_SignalCell) (σ : Store) (r : AV) (σ' : Store) : Prop := ∃ x ids, r = .agg [.sl (s.g_Glues.map eGlue), .sl (s.g_Tiles.map eTile), .int .i64 temp, x] ∧ CellsO σ'.get x cells ids ∧ NewIds σ.next σ'.next ids ∧ Kept σ σ'

theorem snocO {g : Rows} {rows : List (List AV)} {cells : List D_SignalCell} {is ids : List Id} {cs : List AV} {c : D_SignalCell} {o : Id} (hR : RowsN CellO g rows cells is) (hc : CellO g cs c ids) (ho : g o = some ⟨true, 6, rows ++ [cs]⟩) : CellsO g (.own o 0 (cells.length + 1)) (cells ++ [c]) (o :: (is ++ ids)) :=
  .inr ⟨o, _, _, by simp, ho, hR.app (.one hc), rfl⟩
/-- New rows behind those that there are. -/
theorem new_snoc {a n m : Nat} {is ids : List Id} {o : Id} (h : NewIds a n is) (hn : ids.Nodup) (hi : ∀ i ∈ ids, n ≤ i.ver ∧ i.ver < m) (ho : o ∉ ids) (hov : n ≤ o.ver ∧ o.ver < m) (han : a ≤ n) (hnm : n ≤ m) : NewIds a m (o :: (is ++ ids)) := by
  refine ⟨?_, fun i hi' => ?_⟩
  · rw [List.nodup_cons, List.nodup_append]
    refine ⟨fun hc => ?_, h.1, hn, fun x hx y hy e => ?_⟩
    · rcases List.mem_append.1 hc with hc | hc
      · have := h.2 _ hc; omega
      · exact ho hc
    · subst e; have := h.2 x hx; have := hi x hy; omega
  · rcases List.mem_cons.1 hi' with rfl | hi'
    · omega
    · rcases List.mem_append.1 hi' with hi' | hi'
      · have := h.2 i hi'; omega
      · have := hi i hi'; omega
theorem new_tail {a b : Nat} {o : Id} {is : List Id} (h : NewIds a b (o :: is)) : NewIds a b is ∧ ∀ i ∈ is, (i = o) = False := by
  refine ⟨⟨(List.nodup_cons.1 h.1).2, fun i hi => h.2 i (by simp [hi])⟩, fun i hi => ?_⟩
  simp only [eq_iff_iff, iff_false]
  rintro rfl
  exact (List.nodup_cons.1 h.1).1 hi

set_option maxRecDepth 100000 in
set_option maxHeartbeats 4000000 in
theorem clone_v (s : D_SignalSet) (temp : Int) (cells : List D_SignalCell) (h80 : cells.length ≤ 80) (hb : ∀ c ∈ cells, c.g_On.length = 4 ∧ c.g_Bound.length = 4 ∧ c.g_Fired.length ≤ 6) (σ : Store) : Call Tryz.prog 57 [.agg (eWorld s temp cells)] σ (CloneK s temp cells σ) := by
  refine CallBM (cfM [(5, 1)]) rfl fun hl => ?_
  clear hl
  (try ((repeat (revert hN; revert N; apply Pn.out)); refine wk @eWorld.eq_1 ?_; (repeat (refine Pn.mk ?_; intro N hN))))
  refine w_loopF (fun n env st => ∃ k : Nat, n = (cells.length) - k ∧ k ≤ (cells.length) ∧ env 14 = .int .i64 (k : Int) ∧ (∃ x is, st.get ⟨57001005, σ.next + 1⟩ = some ⟨true, 4, [[.sl (s.g_Glues.map eGlue), .sl (s.g_Tiles.map eTile), .int .i64 temp, x]]⟩ ∧ CellsO st.get x (cells.take k) is ∧ NewIds (σ.next + 2) st.next is ∧ σ.next + 2 ≤ st.next ∧ ∀ j : Id, j.ver < σ.next → st.get j = σ.get j) ∧ st.get ⟨57000001, σ.next⟩ = some ⟨true, 4, [[.nils, .nils, .int .i64 0, .nils]]⟩) (cells.length) ⟨0, by omega, by omega, by (try simp only [go_sem, ↓reduceIte, Nat.reduceEqDiff, Nat.reduceAdd, Nat.reduceSub, Nat.reduceLeDiff, reduceCtorEq, eWorld]); try rfl, ⟨.nils, [], sd @Nat.zero_add, .inl ⟨rfl, rfl, rfl⟩, ⟨List.nodup_nil, (fun i h => by cases h)⟩, by simp, fun j hj => sd (vne hj)⟩, by (try simp only [go_sem, ↓reduceIte, Nat.reduceEqDiff, Nat.reduceAdd, Nat.reduceSub, Nat.reduceLeDiff, reduceCtorEq, eWorld]); try rfl⟩ ?_
  rintro n_a env_a st_a ⟨k, rfl, ale, a14, aI0, ag0⟩ afr
  have a2 := afr 2 (by kernel_rfl); have a3 := afr 3 (by kernel_rfl); have a12 := afr 12 (by kernel_rfl); have a13 := afr 13 (by kernel_rfl)
  simp only [go_sem, ↓reduceIte, Nat.reduceEqDiff, Nat.reduceAdd, Nat.reduceSub, Nat.reduceLeDiff, reduceCtorEq, eWorld] at a2 a3 a12 a13
  clear afr
  obtain ⟨x, is, ag, hO, hN2, hle, hK⟩ := aI0
  by_cases hk : (k : Int) < (cells.length : Int)
  · have nexta : ∀ {e : Env} {gg : Rows} {nx : Nat}, (e 14 = .int .i64 (IntKind.i64.wrap ((k : Int) + 1))) → (∃ x is, gg ⟨57001005, σ.next + 1⟩ = some ⟨true, 4, [[.sl (s.g_Glues.map eGlue), .sl (s.g_Tiles.map eTile), .int .i64 temp, x]]⟩ ∧ CellsO gg x (cells.take (k + 1)) is ∧ NewIds (σ.next + 2) nx is ∧ σ.next + 2 ≤ nx ∧ ∀ j : Id, j.ver < σ.next → gg j = σ.get j) → (gg ⟨57000001, σ.next⟩ = some ⟨true, 4, [[.nils, .nils, .int .i64 0, .nils]]⟩) → ∃ m0, m0 < (cells.length) - k ∧ ∃ k : Nat, m0 = (cells.length) - k ∧ k ≤ (cells.length) ∧ e 14 = .int .i64 (k : Int) ∧ (∃ x is, gg ⟨57001005, σ.next + 1⟩ = some ⟨true, 4, [[.sl (s.g_Glues.map eGlue), .sl (s.g_Tiles.map eTile), .int .i64 temp, x]]⟩ ∧ CellsO gg x (cells.take k) is ∧ NewIds (σ.next + 2) nx is ∧ σ.next + 2 ≤ nx ∧ ∀ j : Id, j.ver < σ.next → gg j = σ.get j) ∧ gg ⟨57000001, σ.next⟩ = some ⟨true, 4, [[.nils, .nils, .int .i64 0, .nils]]⟩ := fun x1 x2 x3 => ⟨_, by omega, k + 1, rfl, by omega, (by rw [x1, wrap_succ2 (by omega)]), x2, x3⟩
    have hi : k < cells.length := by omega
    have hgi : (cells.map eCell)[k]? = some (eCell cells[k]) := by simp [hi]
    have hbb := hb _ (List.getElem_mem hi)
    have hts : cells.take (k + 1) = cells.take k ++ [cells[k]] := List.take_succ_eq_append_getElem hi
    generalize cells[k] = c at *
    obtain ⟨c1, c2, c3⟩ := hbb
    have m1 := cloneBool_m c.g_On (by omega) (by omega)
    have m2 := cloneBool_m c.g_Bound (by omega) (by omega)
    rcases hO with ⟨h0, rfl, rfl⟩ | ⟨o, rows, is, rfl, ho, hR, rfl⟩
    · by_cases hf : 0 < c.g_Fired.length
      · have m3 := cloneBool_m c.g_Fired (by omega) (by omega)
        (repeat (first | ((repeat (revert hN; revert N; apply Pn.out)); refine wk (tw @a14 (tw @ag0 (tw @a2 (tw @a3 (tw @a12 (tw @a13 (tw @ag (tw @hk (tw @hgi @eCell.eq_1))))))))) ?_; (repeat (refine Pn.mk ?_; intro N hN))) | (refine .inr ⟨_, _, RowM.x (m1) (sd (tw @a14 (tw @ag0 (tw @a2 (tw @a3 (tw @a12 (tw @a13 (tw @ag (tw @hk (tw @hgi @eCell.eq_1)))))))))), ?_⟩; refine hN _ _ ?_; clear hN N) | (refine .inr ⟨_, _, RowM.x (m2) (sd (tw @a14 (tw @ag0 (tw @a2 (tw @a3 (tw @a12 (tw @a13 (tw @ag (tw @hk (tw @hgi @eCell.eq_1)))))))))), ?_⟩; refine hN _ _ ?_; clear hN N) | (refine .inr ⟨_, _, RowM.x (m3) (sd (tw @a14 (tw @ag0 (tw @a2 (tw @a3 (tw @a12 (tw @a13 (tw @ag (tw @hk (tw @hgi @eCell.eq_1)))))))))), ?_⟩; refine hN _ _ ?_; clear hN N)))
        refine nexta (sd (tw @a14 (tw @ag0 (tw @a2 (tw @a3 (tw @a12 @a13)))))) ⟨.own ⟨57005017, st_a.next + 1 + 1⟩ 0 1, ⟨57005017, st_a.next + 1 + 1⟩ :: ([] ++ ([⟨57005008, st_a.next + 1 + 1⟩] ++ ([⟨57005011, st_a.next + 1 + 1⟩] ++ [⟨57005014, st_a.next + 1 + 1⟩]))), sd @Nat.zero_add, ?_, new_snoc (n := st_a.next) ⟨List.nodup_nil, (fun i h => by cases h)⟩ (by simp) (fun i hi => ?_) (by simp) (by (try dsimp only); omega) (by omega) (by (try dsimp only); omega), by (try dsimp only); omega, fun j hj => ?_⟩ (sd (tw @a14 (tw @ag0 (tw @a2 (tw @a3 (tw @a12 @a13))))))
        · rw [hts, h0]
          refine snocO (o := ⟨57005017, st_a.next + 1 + 1⟩) (is := []) (cs := [.int .i64 c.g_At.g_X, .int .i64 c.g_At.g_Y, .int .i64 c.g_Tile, .own ⟨57005008, st_a.next + 1 + 1⟩ 0 c.g_On.length, .own ⟨57005011, st_a.next + 1 + 1⟩ 0 c.g_Bound.length, .own ⟨57005014, st_a.next + 1 + 1⟩ 0 c.g_Fired.length]) (c := c) (ids := [⟨57005008, st_a.next + 1 + 1⟩] ++ ([⟨57005011, st_a.next + 1 + 1⟩] ++ [⟨57005014, st_a.next + 1 + 1⟩])) (rows := []) ?_ ?_ ?_
          · exact RowsN.nil
          · exact ⟨_, _, _, _, _, _, rfl, .inl ⟨_, rfl, sd @Nat.zero_add, rfl⟩, .inl ⟨_, rfl, sd @Nat.zero_add, rfl⟩, .inl ⟨_, rfl, sd @Nat.zero_add, rfl⟩, rfl⟩
          · simp only [go_sem, ↓reduceIte, Nat.reduceEqDiff, Nat.reduceAdd, Nat.reduceSub, Nat.reduceLeDiff, reduceCtorEq]
        · simp at hi
          rcases hi with rfl | rfl | rfl <;> simp <;> omega
        · have h1 := hK j hj
          simp only [go_sem, ↓reduceIte, Nat.reduceEqDiff, Nat.reduceAdd, Nat.reduceSub, Nat.reduceLeDiff, reduceCtorEq, vne (show j.ver < st_a.next by omega), vne hj, h1]
      · have hf0 : c.g_Fired = [] := by simpa using hf
        have m3 := cloneBool_v [] (by simp)
        (repeat (first | ((repeat (revert hN; revert N; apply Pn.out)); refine wk (tw @a14 (tw @ag0 (tw @a2 (tw @a3 (tw @a12 (tw @a13 (tw @ag (tw @hk (tw @hgi (tw @hf0 @eCell.eq_1)))))))))) ?_; (repeat (refine Pn.mk ?_; intro N hN))) | (refine .inr ⟨_, _, RowM.x (m1) (sd (tw @a14 (tw @ag0 (tw @a2 (tw @a3 (tw @a12 (tw @a13 (tw @ag (tw @hk (tw @hgi (tw @hf0 @eCell.eq_1))))))))))), ?_⟩; refine hN _ _ ?_; clear hN N) | (refine .inr ⟨_, _, RowM.x (m2) (sd (tw @a14 (tw @ag0 (tw @a2 (tw @a3 (tw @a12 (tw @a13 (tw @ag (tw @hk (tw @hgi (tw @hf0 @eCell.eq_1))))))))))), ?_⟩; refine hN _ _ ?_; clear hN N) | ((try apply Or.inl); refine ⟨_, Ret.x (m3) _, ?_⟩; refine hN _ _ ?_; clear hN N)))
        refine nexta (sd (tw @a14 (tw @ag0 (tw @a2 (tw @a3 (tw @a12 @a13)))))) ⟨.own ⟨57005017, st_a.next + 1 + 1⟩ 0 1, ⟨57005017, st_a.next + 1 + 1⟩ :: ([] ++ ([⟨57005008, st_a.next + 1 + 1⟩] ++ ([⟨57005011, st_a.next + 1 + 1⟩] ++ []))), sd @Nat.zero_add, ?_, new_snoc (n := st_a.next) ⟨List.nodup_nil, (fun i h => by cases h)⟩ (by simp) (fun i hi => ?_) (by simp) (by (try dsimp only); omega) (by omega) (by (try dsimp only); omega), by (try dsimp only); omega, fun j hj => ?_⟩ (sd (tw @a14 (tw @ag0 (tw @a2 (tw @a3 (tw @a12 @a13))))))
        · rw [hts, h0]
          refine snocO (o := ⟨57005017, st_a.next + 1 + 1⟩) (is := []) (cs := [.int .i64 c.g_At.g_X, .int .i64 c.g_At.g_Y, .int .i64 c.g_Tile, .own ⟨57005008, st_a.next + 1 + 1⟩ 0 c.g_On.length, .own ⟨57005011, st_a.next + 1 + 1⟩ 0 c.g_Bound.length, .sl []]) (c := c) (ids := [⟨57005008, st_a.next + 1 + 1⟩] ++ ([⟨57005011, st_a.next + 1 + 1⟩] ++ [])) (rows := []) ?_ ?_ ?_
          · exact RowsN.nil
          · exact ⟨_, _, _, _, _, _, rfl, .inl ⟨_, rfl, sd @Nat.zero_add, rfl⟩, .inl ⟨_, rfl, sd @Nat.zero_add, rfl⟩, .inr ⟨hf0, rfl, rfl⟩, rfl⟩
          · simp only [go_sem, ↓reduceIte, Nat.reduceEqDiff, Nat.reduceAdd, Nat.reduceSub, Nat.reduceLeDiff, reduceCtorEq]
        · simp at hi
          rcases hi with rfl | rfl <;> simp <;> omega
        · have h1 := hK j hj
          simp only [go_sem, ↓reduceIte, Nat.reduceEqDiff, Nat.reduceAdd, Nat.reduceSub, Nat.reduceLeDiff, reduceCtorEq, vne (show j.ver < st_a.next by omega), vne hj, h1]
    · have hov := (hN2.2 o (by simp))
      have v1 := vne hov.2
      have hrl : rows.length = (cells.take k).length := hR.len
      have e1 : (cells.take k).length + 1 ≤ 16777216 := by rw [List.length_take]; omega
      have x1 : ∀ s0, (o = ⟨s0, σ.next + 1⟩) = False ∧ (⟨s0, σ.next + 1⟩ = o) = False ∧ (o = ⟨s0, σ.next⟩) = False ∧ (⟨s0, σ.next⟩ = o) = False := fun s0 => by
        obtain ⟨oa, ob⟩ := o
        simp only [Id.mk.injEq, eq_iff_iff, iff_false, not_and]
        simp only at hov
        refine ⟨?_, ?_, ?_, ?_⟩ <;> (intros; omega)
      have x2 : ∀ i ∈ is, ∀ s0, (i = ⟨s0, σ.next + 1⟩) = False := fun i hi s0 => by
        have := hN2.2 i (by simp [hi])
        obtain ⟨oa, ob⟩ := i
        simp only [Id.mk.injEq, eq_iff_iff, iff_false, not_and]
        simp only at this
        intros; omega
      have jo : ∀ j : Id, j.ver < σ.next → (j = o) = False := fun j hj => by
        simp only [eq_iff_iff, iff_false]; rintro rfl; omega
      by_cases hf : 0 < c.g_Fired.length
      · have m3 := cloneBool_m c.g_Fired (by omega) (by omega)
        (repeat (first | ((repeat (revert hN; revert N; apply Pn.out)); refine wk (tw @a14 (tw @ag0 (tw @a2 (tw @a3 (tw @a12 (tw @a13 (tw @ag (tw @hk (tw @hgi (tw @ho (tw @v1 (tw @x1 (tw @hrl (tw @e1 @eCell.eq_1)))))))))))))) ?_; (repeat (refine Pn.mk ?_; intro N hN))) | (refine .inr ⟨_, _, RowM.x (m1) (sd (tw @a14 (tw @ag0 (tw @a2 (tw @a3 (tw @a12 (tw @a13 (tw @ag (tw @hk (tw @hgi (tw @ho (tw @v1 (tw @x1 (tw @hrl (tw @e1 @eCell.eq_1))))))))))))))), ?_⟩; refine hN _ _ ?_; clear hN N) | (refine .inr ⟨_, _, RowM.x (m2) (sd (tw @a14 (tw @ag0 (tw @a2 (tw @a3 (tw @a12 (tw @a13 (tw @ag (tw @hk (tw @hgi (tw @ho (tw @v1 (tw @x1 (tw @hrl (tw @e1 @eCell.eq_1))))))))))))))), ?_⟩; refine hN _ _ ?_; clear hN N) | (refine .inr ⟨_, _, RowM.x (m3) (sd (tw @a14 (tw @ag0 (tw @a2 (tw @a3 (tw @a12 (tw @a13 (tw @ag (tw @hk (tw @hgi (tw @ho (tw @v1 (tw @x1 (tw @hrl (tw @e1 @eCell.eq_1))))))))))))))), ?_⟩; refine hN _ _ ?_; clear hN N)))
        refine nexta (sd (tw @a14 (tw @ag0 (tw @a2 (tw @a3 (tw @a12 @a13)))))) ⟨.own ⟨57005017, st_a.next + 1 + 1⟩ 0 ((cells.take k).length + 1), ⟨57005017, st_a.next + 1 + 1⟩ :: (is ++ ([⟨57005008, st_a.next + 1 + 1⟩] ++ ([⟨57005011, st_a.next + 1 + 1⟩] ++ [⟨57005014, st_a.next + 1 + 1⟩]))), sd @Nat.zero_add, ?_, new_snoc (n := st_a.next) (new_tail hN2).1 (by simp) (fun i hi => ?_) (by simp) (by (try dsimp only); omega) (by omega) (by (try dsimp only); omega), by (try dsimp only); omega, fun j hj => ?_⟩ (sd (tw @a14 (tw @ag0 (tw @a2 (tw @a3 (tw @a12 (tw @a13 @x1)))))))
        · rw [hts]
          refine snocO (o := ⟨57005017, st_a.next + 1 + 1⟩) (is := is) (cs := [.int .i64 c.g_At.g_X, .int .i64 c.g_At.g_Y, .int .i64 c.g_Tile, .own ⟨57005008, st_a.next + 1 + 1⟩ 0 c.g_On.length, .own ⟨57005011, st_a.next + 1 + 1⟩ 0 c.g_Bound.length, .own ⟨57005014, st_a.next + 1 + 1⟩ 0 c.g_Fired.length]) (c := c) (ids := [⟨57005008, st_a.next + 1 + 1⟩] ++ ([⟨57005011, st_a.next + 1 + 1⟩] ++ [⟨57005014, st_a.next + 1 + 1⟩])) (rows := rows) ?_ ?_ ?_
          · exact (hR.frame cellOk fun i hi => sd (tw (vne ((new_tail hN2).1.2 i hi).2) (tw ((new_tail hN2).2 i hi) (x2 i hi))))
          · exact ⟨_, _, _, _, _, _, rfl, .inl ⟨_, rfl, sd @v1, rfl⟩, .inl ⟨_, rfl, sd @v1, rfl⟩, .inl ⟨_, rfl, sd @v1, rfl⟩, rfl⟩
          · simp only [go_sem, ↓reduceIte, Nat.reduceEqDiff, Nat.reduceAdd, Nat.reduceSub, Nat.reduceLeDiff, reduceCtorEq]
        · simp at hi
          rcases hi with rfl | rfl | rfl <;> simp <;> omega
        · have h1 := hK j hj
          simp only [go_sem, ↓reduceIte, Nat.reduceEqDiff, Nat.reduceAdd, Nat.reduceSub, Nat.reduceLeDiff, reduceCtorEq, vne (show j.ver < st_a.next by omega), vne hj, jo j hj, h1]
      · have hf0 : c.g_Fired = [] := by simpa using hf
        have m3 := cloneBool_v [] (by simp)
        (repeat (first | ((repeat (revert hN; revert N; apply Pn.out)); refine wk (tw @a14 (tw @ag0 (tw @a2 (tw @a3 (tw @a12 (tw @a13 (tw @ag (tw @hk (tw @hgi (tw @ho (tw @v1 (tw @x1 (tw @hrl (tw @e1 (tw @hf0 @eCell.eq_1))))))))))))))) ?_; (repeat (refine Pn.mk ?_; intro N hN))) | (refine .inr ⟨_, _, RowM.x (m1) (sd (tw @a14 (tw @ag0 (tw @a2 (tw @a3 (tw @a12 (tw @a13 (tw @ag (tw @hk (tw @hgi (tw @ho (tw @v1 (tw @x1 (tw @hrl (tw @e1 (tw @hf0 @eCell.eq_1)))))))))))))))), ?_⟩; refine hN _ _ ?_; clear hN N) | (refine .inr ⟨_, _, RowM.x (m2) (sd (tw @a14 (tw @ag0 (tw @a2 (tw @a3 (tw @a12 (tw @a13 (tw @ag (tw @hk (tw @hgi (tw @ho (tw @v1 (tw @x1 (tw @hrl (tw @e1 (tw @hf0 @eCell.eq_1)))))))))))))))), ?_⟩; refine hN _ _ ?_; clear hN N) | ((try apply Or.inl); refine ⟨_, Ret.x (m3) _, ?_⟩; refine hN _ _ ?_; clear hN N)))
        refine nexta (sd (tw @a14 (tw @ag0 (tw @a2 (tw @a3 (tw @a12 @a13)))))) ⟨.own ⟨57005017, st_a.next + 1 + 1⟩ 0 ((cells.take k).length + 1), ⟨57005017, st_a.next + 1 + 1⟩ :: (is ++ ([⟨57005008, st_a.next + 1 + 1⟩] ++ ([⟨57005011, st_a.next + 1 + 1⟩] ++ []))), sd @Nat.zero_add, ?_, new_snoc (n := st_a.next) (new_tail hN2).1 (by simp) (fun i hi => ?_) (by simp) (by (try dsimp only); omega) (by omega) (by (try dsimp only); omega), by (try dsimp only); omega, fun j hj => ?_⟩ (sd (tw @a14 (tw @ag0 (tw @a2 (tw @a3 (tw @a12 (tw @a13 @x1)))))))
        · rw [hts]
          refine snocO (o := ⟨57005017, st_a.next + 1 + 1⟩) (is := is) (cs := [.int .i64 c.g_At.g_X, .int .i64 c.g_At.g_Y, .int .i64 c.g_Tile, .own ⟨57005008, st_a.next + 1 + 1⟩ 0 c.g_On.length, .own ⟨57005011, st_a.next + 1 + 1⟩ 0 c.g_Bound.length, .sl []]) (c := c) (ids := [⟨57005008, st_a.next + 1 + 1⟩] ++ ([⟨57005011, st_a.next + 1 + 1⟩] ++ [])) (rows := rows) ?_ ?_ ?_
          · exact (hR.frame cellOk fun i hi => sd (tw (vne ((new_tail hN2).1.2 i hi).2) (tw ((new_tail hN2).2 i hi) (x2 i hi))))
          · exact ⟨_, _, _, _, _, _, rfl, .inl ⟨_, rfl, sd @v1, rfl⟩, .inl ⟨_, rfl, sd @v1, rfl⟩, .inr ⟨hf0, rfl, rfl⟩, rfl⟩
          · simp only [go_sem, ↓reduceIte, Nat.reduceEqDiff, Nat.reduceAdd, Nat.reduceSub, Nat.reduceLeDiff, reduceCtorEq]
        · simp at hi
          rcases hi with rfl | rfl <;> simp <;> omega
        · have h1 := hK j hj
          simp only [go_sem, ↓reduceIte, Nat.reduceEqDiff, Nat.reduceAdd, Nat.reduceSub, Nat.reduceLeDiff, reduceCtorEq, vne (show j.ver < st_a.next by omega), vne hj, jo j hj, h1]
  · have hkf : k = cells.length := by omega
    subst hkf
    rw [List.take_length] at hO
    have hxc : x.cell = true := by
      rcases hO with ⟨_, rfl, _⟩ | ⟨_, _, _, rfl, _⟩ <;> rfl
    simp only [AV.cell] at hxc
    (try ((repeat (revert hN; revert N; apply Pn.out)); refine wk (tw @a14 (tw @ag0 (tw @a2 (tw @a3 (tw @a12 (tw @a13 (tw @ag (tw @hk @hxc)))))))) ?_; (repeat (refine Pn.mk ?_; intro N hN))))
    refine retO (.inl rfl) (by simp only [vresL, vres1, go_sem, ↓reduceIte, Nat.reduceEqDiff, Nat.reduceAdd, Nat.reduceSub, Nat.reduceLeDiff, reduceCtorEq, a14, ag0, a2, a3, a12, a13]; rfl) ⟨x, is, rfl, hO.frame cellOk fun i hi => ?_, hN2.wide (by omega) (by (try dsimp only); omega), by (try dsimp only); omega, fun j hj => ?_⟩
    · have := hN2.2 i hi
      have hne : (i = ⟨57000001, σ.next⟩) = False := by
        obtain ⟨ia, ib⟩ := i
        simp only [Id.mk.injEq, eq_iff_iff, iff_false, not_and]
        simp only at this
        intros; omega
      simp only [go_sem, ↓reduceIte, Nat.reduceEqDiff, Nat.reduceAdd, Nat.reduceSub, Nat.reduceLeDiff, reduceCtorEq, hne]
    · have h1 := hK j hj
      simp only [go_sem, ↓reduceIte, Nat.reduceEqDiff, Nat.reduceAdd, Nat.reduceSub, Nat.reduceLeDiff, reduceCtorEq, vne hj, h1]

end Go.Proofs.YtpbniieiinhliaaGreat.V

namespace Go.Proofs.YtpbniieiinhliaaGreat.V
open Go.RowKit

variable {P : Program} {w w' : World} {D : Nat → Prop} {ι : Names} {hs : Nat} {g : Rows}

def blkOf (ι : Names) (i : Id) : Nat := match ι i with
  | some B => B.b
  | none => 0
theorem blkOf_eq {i : Id} {B : Blk} (h : ι i = some B) : blkOf ι i = B.b := by simp [blkOf, h]

theorem scal_rep {a : AV} {u v : Value} (h : scal a = some u) (hr : Rep P w D ι a v) : v = u := by
  cases a with
  | int k n => simp [scal] at h; subst h; exact rep_int hr
  | bool b => simp [scal] at h; subst h; exact rep_bool hr
  | str s => simp [scal] at h; subst h; exact rep_str hr
  | _ => simp [scal] at h

theorem ol_slof {α : Type} {e : α → List AV} {enc : α → List Value} {sz : Nat} {a : AV} {v : Value} {xs : List α} {ids : List Id} (S : Sim P hs D ι g w) (h : OL e sz g a xs ids) (hr : Rep P w D ι a v) (hE : FlatE e enc) (hz : ∀ x, (e x).length = sz) (hs0 : 0 < sz) :
    SlOf (Flat enc) sz w (ids.map (blkOf ι)) v xs := by
  have hzE : ∀ x, (enc x).length = sz := fun x => by rw [← hE.len]; exact hz x
  refine SlOf.mk_flat (fun d _ => hzE d) ?_
  rcases h with ⟨id, rfl, hg, rfl⟩ | ⟨rfl, rfl, rfl⟩
  · obtain ⟨o, cap, B, rfl, hB, h1, h2, h3, h4⟩ := rep_own hr
    obtain ⟨B', hB', R, _, _⟩ := S.row id _ hg
    rw [hB] at hB'; injection hB' with hB'; subst hB'
    refine ⟨_, cap, rfl, h1, h4, .inr ⟨B.b, o, by simp [blkOf_eq hB], rfl, fun j u hj => ?_⟩⟩
    have hBs : B.sz = sz := R.sz
    have hjl : j < xs.length * sz := by
      have := (List.getElem?_eq_some_iff.1 hj).1
      rwa [flatMap_len (k := sz) hzE] at this
    have hx0 : 0 < xs.length := by
      rcases Nat.eq_zero_or_pos xs.length with h | h
      · rw [h] at hjl; simp at hjl
      · exact h
    have ho : o = 0 := by
      rcases h2 with h | h
      · omega
      · simpa using h
    subst ho
    have hi : j / sz < xs.length := (Nat.div_lt_iff_lt_mul hs0).2 hjl
    have hm : j % sz < sz := Nat.mod_lt _ hs0
    have hje : j = (j / sz) * sz + j % sz := by rw [Nat.mul_comm]; exact (Nat.div_add_mod j sz).symm
    have hl : j % sz < (e xs[j / sz]).length := by rw [hz]; exact hm
    obtain ⟨v, hv1, hv2⟩ := R.at_ (j / sz) (j % sz) (e xs[j / sz]) (e xs[j / sz])[j % sz] (by simp [hi]) (List.getElem?_eq_getElem hl)
    obtain ⟨u', hu', hsc⟩ := hE.get (x := xs[j / sz]) (j := j % sz) (List.getElem?_eq_getElem hl)
    rw [List.flatMap_def, hje, flatten_get (sz := sz) (fun cs hcs => by obtain ⟨x, _, rfl⟩ := List.mem_map.1 hcs; exact hzE x) (i := j / sz) (cs := enc xs[j / sz]) (by simp [hi]) hm, hu'] at hj
    injection hj with hj
    subst hj
    rw [← scal_rep hsc hv2, Nat.zero_add, hje]
    have : ((j / sz) * sz + j % sz) = j := hje.symm
    exact hv1
  · obtain ⟨A, c, rfl, h1, h2, _⟩ := rep_sl hr
    exact ⟨A, c, rfl, h1, h2, .inl ⟨rfl, rfl⟩⟩

theorem RowsN.lists {α : Type} {R : ElO α} {rows : List (List AV)} {xs : List α} {ids : List Id} (h : RowsN R g rows xs ids) : ∃ idl : List (List Id), idl.length = xs.length ∧ idl.flatten = ids ∧ ∀ (k : Nat) (cs : List AV) (x : α) (i : List Id), rows[k]? = some cs → xs[k]? = some x → idl[k]? = some i → R g cs x i := by
  induction h with
  | nil => exact ⟨[], rfl, rfl, fun k cs x i h => by simp at h⟩
  | cons h1 _ ih =>
    rename_i cs0 x0 j1 rs xs' j2 h2
    obtain ⟨idl, l1, l2, l3⟩ := ih
    refine ⟨j1 :: idl, by simp [l1], by simp [l2], fun k cs x i a b c => ?_⟩
    cases k with
    | zero => simp at a b c; subst a; subst b; subst c; exact h1
    | succ k => exact l3 k cs x i (by simpa using a) (by simpa using b) (by simpa using c)

theorem own_slof {α : Type} {R : ElO α} {sz : Nat} {rep : World → List Nat → List Value → α → Prop} {a : AV} {v : Value} {xs : List α} {ids : List Id} (ok : ElOk R sz) (S : Sim P hs D ι g w) (h : OwnN R sz g a xs ids) (hr : Rep P w D ι a v)
    (hel : ∀ (cs : List AV) (x : α) (i : List Id) (vs : List Value), R g cs x i → vs.length = sz → (∀ (j : Nat) (b : AV), cs[j]? = some b → ∃ u, vs[j]? = some u ∧ Rep P w D ι b u) → rep w (i.map (blkOf ι)) vs x) : SlOf rep sz w (ids.map (blkOf ι)) v xs := by
  rcases h with ⟨rfl, rfl, rfl⟩ | ⟨o, rows, is, rfl, hg, hR, rfl⟩
  · rw [rep_nils hr]; exact SlOf.nil _ _ _
  · obtain ⟨off, cap, B, rfl, hB, h1, h2, h3, h4⟩ := rep_own hr
    obtain ⟨B', hB', Rw, _, _⟩ := S.row o _ hg
    rw [hB] at hB'; injection hB' with hB'; subst hB'
    have hBs : B.sz = sz := Rw.sz
    obtain ⟨idl, l1, l2, l3⟩ := hR.lists
    have hrl := hR.len
    let val : Nat → Nat → Value := fun k j => (w.cell? ⟨B.b, k * sz + j, none⟩).getD Go.undef
    refine ⟨(List.range xs.length).map fun k => (List.range sz).map (val k), idl.map (List.map (blkOf ι)), [B.b], ?_, ⟨_, cap, rfl, h1, h4, .inr ⟨B.b, off, rfl, rfl, fun j u hj => ?_⟩⟩, by simp, by simp [l1], fun k cs f d hcs hf hd => ?_⟩
    · rw [List.map_cons, blkOf_eq hB, ← l2, List.map_flatten]; rfl
    · have hlen : ∀ cs ∈ (List.range xs.length).map fun k => (List.range sz).map (val k), cs.length = sz := fun cs hcs => by
        obtain ⟨i, _, rfl⟩ := List.mem_map.1 hcs; simp
      have hjl : j < xs.length * sz := by
        have := (List.getElem?_eq_some_iff.1 hj).1
        rw [flatten_len hlen] at this; simpa using this
      have hs0 : 0 < sz := by
        rcases Nat.eq_zero_or_pos sz with h | h
        · rw [h] at hjl; simp at hjl
        · exact h
      have hi : j / sz < xs.length := (Nat.div_lt_iff_lt_mul hs0).2 hjl
      have hm : j % sz < sz := Nat.mod_lt _ hs0
      have hje : j = (j / sz) * sz + j % sz := by rw [Nat.mul_comm]; exact (Nat.div_add_mod j sz).symm
      have hx0 : 0 < xs.length := Nat.lt_of_le_of_lt (Nat.zero_le _) hi
      have ho : off = 0 := by
        rcases h2 with h | h
        · omega
        · simpa using h
      subst ho
      rw [hje, flatten_get hlen (i := j / sz) (cs := (List.range sz).map (val (j / sz))) (by simp [hi]) hm] at hj
      simp [hm] at hj
      have hir : j / sz < rows.length := by rw [hrl]; exact hi
      have hcsl : rows[j / sz].length = sz := Rw.len _ (List.getElem_mem hir)
      have hcm : j % sz < rows[j / sz].length := by rw [hcsl]; exact hm
      obtain ⟨v, hv1, _⟩ := Rw.at_ (j / sz) (j % sz) rows[j / sz] (rows[j / sz][j % sz]'hcm) (List.getElem?_eq_getElem hir) (List.getElem?_eq_getElem hcm)
      have hv1' : w.cell? ⟨B.b, (j / sz) * sz + j % sz, none⟩ = some v := hv1
      rw [Nat.zero_add, hje, hv1']
      simp only [val, hv1', Option.getD_some] at hj
      rw [hj]
    · have hk : k < xs.length := (List.getElem?_eq_some_iff.1 hd).1
      simp [hk] at hcs
      subst hcs
      rw [List.getElem?_map, Option.map_eq_some_iff] at hf
      obtain ⟨i, hi, rfl⟩ := hf
      have hkr : k < rows.length := by rw [hrl]; exact hk
      refine ⟨hel rows[k] d i _ (l3 k _ d i (List.getElem?_eq_getElem hkr) hd hi) (by simp) fun j b hb => ?_, by simp⟩
      obtain ⟨v, hv1, hv2⟩ := Rw.at_ k j rows[k] b (List.getElem?_eq_getElem hkr) hb
      have hjl : j < sz := by
        have := (List.getElem?_eq_some_iff.1 hb).1
        rwa [Rw.len _ (List.getElem_mem hkr)] at this
      refine ⟨val k j, by simp [hjl], ?_⟩
      have hv1' : w.cell? ⟨B.b, k * sz + j, none⟩ = some v := hv1
      simp only [val, hv1', Option.getD_some]; exact hv2

theorem ids_fresh {w0 : World} {ids : List Id} (S : Sim P w0.heap.size D ι g w) (hl : ∀ i ∈ ids, ∃ r, g i = some r ∧ r.w = true) (hnd : ids.Nodup) : Fresh w0 w (ids.map (blkOf ι)) := by
  have one : ∀ i ∈ ids, ∃ r B, g i = some r ∧ r.w = true ∧ ι i = some B ∧ blkOf ι i = B.b ∧ w0.heap.size ≤ B.b ∧ ∃ cs T, w.heap[B.b]? = some (.cells cs T (0, 0)) := fun i hi => by
    obtain ⟨r, h1, h2⟩ := hl i hi
    obtain ⟨B, hB, R, k1, _⟩ := S.row i r h1
    obtain ⟨cs, T, h3, _⟩ := R.blk
    exact ⟨r, B, h1, h2, hB, blkOf_eq hB, k1 h2, cs, T, h3⟩
  refine ⟨fun b hb => ?_, ?_, fun b hb => ?_⟩
  · obtain ⟨i, hi, rfl⟩ := List.mem_map.1 hb
    obtain ⟨r, B, _, _, _, e, h1, cs, T, h2⟩ := one i hi
    rw [e]; exact ⟨h1, (Array.getElem?_eq_some_iff.1 h2).1⟩
  · rw [List.Nodup, List.pairwise_map]
    refine hnd.imp_of_mem fun hx hy hne he => hne ?_
    rename_i x y
    obtain ⟨r, B, a1, a2, a3, a4, _⟩ := one x hx
    obtain ⟨r', B', b1, b2, b3, b4, _⟩ := one y hy
    exact S.inj x y r r' B B' a1 b1 a2 a3 b3 (by rw [← a4, ← b4]; exact he)
  · obtain ⟨i, hi, rfl⟩ := List.mem_map.1 hb
    obtain ⟨r, B, _, _, _, e, h1, cs, T, h2⟩ := one i hi
    rw [e]; exact ⟨cs, T, h2⟩

/-- Cells of one's own, in the world. -/
theorem cells_slof {a : AV} {v : Value} {xs : List D_SignalCell} {ids : List Id} (S : Sim P hs D ι g w) (h : CellsO g a xs ids) (hr : Rep P w D ι a v) : S_SignalCellS w (ids.map (blkOf ι)) v xs := by
  refine own_slof cellOk S h hr fun cs x i vs hc hvl hrep => ?_
  obtain ⟨p, q, f, i1, i2, i3, rfl, h1, h2, h3, rfl⟩ := hc
  obtain ⟨u0, e0, r0⟩ := hrep 0 _ rfl
  obtain ⟨u1, e1, r1⟩ := hrep 1 _ rfl
  obtain ⟨u2, e2, r2⟩ := hrep 2 _ rfl
  obtain ⟨u3, e3, r3⟩ := hrep 3 _ rfl
  obtain ⟨u4, e4, r4⟩ := hrep 4 _ rfl
  obtain ⟨u5, e5, r5⟩ := hrep 5 _ rfl
  have := rep_int r0; subst this
  have := rep_int r1; subst this
  have := rep_int r2; subst this
  match vs, hvl, e0, e1, e2, e3, e4, e5 with
  | [a0, a1, a2, a3, a4, a5], _, e0, e1, e2, e3, e4, e5 =>
    simp at e0 e1 e2 e3 e4 e5
    subst e0 e1 e2 e3 e4 e5
    have s1 := ol_slof S h1 r3 flatBool (fun _ => rfl) (by decide)
    have s2 := ol_slof S h2 r4 flatBool (fun _ => rfl) (by decide)
    have s3 := ol_slof S h3 r5 flatBool (fun _ => rfl) (by decide)
    exact ⟨_, _, _, _, _, _, by rw [List.map_append, List.map_append], rfl, s1, s2, s3⟩

end Go.Proofs.YtpbniieiinhliaaGreat.V

namespace Go.Proofs.YtpbniieiinhliaaGreat.V
open Go.RowKit
attribute [local irreducible] wpv wpOps PCx Call
attribute [local go_sem] wantedV vop qop eop vis evO upd envOf K.av boxOf AV.cells AV.cell rowOf rowsOf part ld rowAt setR killR ibin vbin vsh vclear vsbin sbin eq1 eqL xorB vnil vnilS vnilF hiOf loOf vslice vsliceS viaddr vidxS vidxA vlen vnot vneg vconv vconvS vpick vchk vfield vextract vlenS fillV vmk rowsIn putCs vstore vappend seqQ blockQ most AV.undef callW locP locQ List.getD_cons_zero List.getD_cons_succ List.getD_nil List.all_cons List.all_nil Bool.and_true Bool.true_and Bool.and_self Bool.not_true Bool.not_false Option.map_some Option.map_none Option.bind_some Option.bind_none List.length_cons List.length_nil List.take_succ_cons List.take_zero List.take_nil List.drop_succ_cons List.drop_zero List.drop_nil List.head?_cons List.map_cons List.map_nil List.getElem?_cons_zero List.getElem?_cons_succ List.cons_append List.nil_append List.append_nil List.length_map List.set_cons_zero List.set_cons_succ Nat.reduceMul eq_self Int.toNat_natCast Int.natCast_nonneg and_self true_and and_true decide_true decide_false Bool.false_eq_true Nat.zero_add Nat.add_zero List.contains_cons List.contains_nil Bool.or_false Bool.false_or beq_self_eq_true Nat.reduceBEq ne_eq not_true_eq_false not_false_eq_true Id.mk.injEq false_and and_false Nat.reduceLT Int.reduceLE Int.reduceLT Int.reduceToNat Int.reduceNeg Int.reduceAdd Nat.le_refl List.length_append beq_true beq_false Bool.not_eq_eq_eq_not or_false false_or rw_ fzRow_cons fzRow_nil fz_int fz_bool fz_str fz_sl fz_nils fz_agg fz_iptr fz_ptrE fz_fn

theorem fz1o {g g' : Rows} {a : AV} {xs : List Bool} {ids : List Id} (h : OL eBool 1 g a xs ids) (hf : ∀ i ∈ ids, g' i = g i) : fzRow (rw_ g') 6 [a] = some [.sl (xs.map eBool)] := by
  rw [fzRow_cons, (h.frame hf).fz fun x => fz_eBool _ _ x, fzRow_nil]; rfl

theorem cloneBoolO_v {g : Rows} {a : AV} {ids : List Id} (h : OL eBool 1 g a [] ids) : Ret Tryz.prog 98 [a] (.sl []) := by
  rcases h with ⟨id, rfl, _, _⟩ | ⟨_, rfl, _⟩
  · intro σ
    refine Call_world fun hs D ι w vs S U A => ?_
    obtain ⟨u, us, rfl, h1, h2⟩ := repL_cons A
    have := repL_nil h2
    simp at this; subst this
    obtain ⟨o, cap, B, rfl, hB, h1, h2, h3, h4⟩ := rep_own h1
    have hS : SlOf (Flat enc_Bool) 1 w [] (.slice (some ⟨B.b, o, none⟩) 0 cap) [] := SlOf.mk_flat (fun d _ => rfl) ⟨_, cap, rfl, Nat.zero_le _, h4, .inl ⟨rfl, rfl⟩⟩
    refine (cloneBool_any w (some ⟨B.b, o, none⟩) 0 cap [] [] hS (fun b hb => by cases hb) (by simp)).mono ?_
    rintro e' w' ⟨fp', A', c', rfl, hS', hF, hb⟩
    have hD' : ∀ b, (D b ∨ b ∈ fp') → b < w'.heap.size := fun b hb' => by
      rcases hb' with h | h
      · exact Nat.lt_of_lt_of_le (S.dead b h) hb.size
      · exact (hF.1 b h).2
    have hN : ∀ b, (D b ∨ b ∈ fp') → D b ∨ w.heap.size ≤ b := fun b hb' => by
      rcases hb' with h | h
      · exact .inl h
      · exact .inr (hF.1 b h).1
    exact ⟨.sl (([] : List Bool).map eBool), _, σ.next, fun b => D b ∨ b ∈ fp', ι, .slice A' 0 c', rfl, ⟨_, fz_sl _ _ _, rfl⟩, Step.stay S hb.block hb.size hb.os hb.tape hb.output (fun _ h => .inl h) hN (fun _ _ h => h),
      S.stay hb.block hb.size (fun _ h => .inl h) hD' hN (fun _ _ h => h), U, Nat.le_refl _, .imm _ _ (flat_imm flatBool (fun _ => rfl) hS' fun b hb => .inr hb)⟩
  · exact cloneBool_v [] (by simp)

set_option maxRecDepth 100000 in
set_option maxHeartbeats 4000000 in
theorem cloneO_v (s : D_SignalSet) (temp : Int) (cells : List D_SignalCell) (h80 : cells.length ≤ 80) (hb : ∀ c ∈ cells, c.g_On.length = 4 ∧ c.g_Bound.length = 4 ∧ c.g_Fired.length ≤ 6) (σ : Store) (o0 : Id) (rows0 : List (List AV)) (is0 : List Id) (ho0 : σ.get o0 = some ⟨true, 6, rows0⟩) (hR0 : RowsN CellO σ.get rows0 cells is0) (hv0 : ∀ i ∈ o0 :: is0, i.ver < σ.next) :
    Call Tryz.prog 57 [.agg [.sl (s.g_Glues.map eGlue), .sl (s.g_Tiles.map eTile), .int .i64 temp, .own o0 0 cells.length]] σ (CloneK s temp cells σ) := by
  refine CallBM (cfM [(5, 1)]) rfl fun hl => ?_
  clear hl
  have hov := hv0 o0 (by simp)
  (try ((repeat (revert hN; revert N; apply Pn.out)); refine wk (vne hov) ?_; (repeat (refine Pn.mk ?_; intro N hN))))
  refine w_loopF (fun n env st => ∃ k : Nat, n = (cells.length) - k ∧ k ≤ (cells.length) ∧ env 14 = .int .i64 (k : Int) ∧ (∃ x is, st.get ⟨57001005, σ.next + 1⟩ = some ⟨true, 4, [[.sl (s.g_Glues.map eGlue), .sl (s.g_Tiles.map eTile), .int .i64 temp, x]]⟩ ∧ CellsO st.get x (cells.take k) is ∧ NewIds (σ.next + 2) st.next is ∧ σ.next + 2 ≤ st.next ∧ ∀ j : Id, j.ver < σ.next → st.get j = σ.get j) ∧ st.get ⟨57000001, σ.next⟩ = some ⟨true, 4, [[.nils, .nils, .int .i64 0, .nils]]⟩) (cells.length) ⟨0, by omega, by omega, by (try simp only [go_sem, ↓reduceIte, Nat.reduceEqDiff, Nat.reduceAdd, Nat.reduceSub, Nat.reduceLeDiff, reduceCtorEq, vne hov]); try rfl, ⟨.nils, [], sd @Nat.zero_add, .inl ⟨rfl, rfl, rfl⟩, ⟨List.nodup_nil, (fun i h => by cases h)⟩, by simp, fun j hj => sd (vne hj)⟩, by (try simp only [go_sem, ↓reduceIte, Nat.reduceEqDiff, Nat.reduceAdd, Nat.reduceSub, Nat.reduceLeDiff, reduceCtorEq, vne hov]); try rfl⟩ ?_
  rintro n_a env_a st_a ⟨k, rfl, ale, a14, aI0, ag0⟩ afr
  have a2 := afr 2 (by kernel_rfl); have a3 := afr 3 (by kernel_rfl); have a12 := afr 12 (by kernel_rfl); have a13 := afr 13 (by kernel_rfl)
  simp only [go_sem, ↓reduceIte, Nat.reduceEqDiff, Nat.reduceAdd, Nat.reduceSub, Nat.reduceLeDiff, reduceCtorEq, vne hov] at a2 a3 a12 a13
  clear afr
  obtain ⟨x, is, ag, hO, hN2, hle, hK⟩ := aI0
  by_cases hk : (k : Int) < (cells.length : Int)
  · have nexta : ∀ {e : Env} {gg : Rows} {nx : Nat}, (e 14 = .int .i64 (IntKind.i64.wrap ((k : Int) + 1))) → (∃ x is, gg ⟨57001005, σ.next + 1⟩ = some ⟨true, 4, [[.sl (s.g_Glues.map eGlue), .sl (s.g_Tiles.map eTile), .int .i64 temp, x]]⟩ ∧ CellsO gg x (cells.take (k + 1)) is ∧ NewIds (σ.next + 2) nx is ∧ σ.next + 2 ≤ nx ∧ ∀ j : Id, j.ver < σ.next → gg j = σ.get j) → (gg ⟨57000001, σ.next⟩ = some ⟨true, 4, [[.nils, .nils, .int .i64 0, .nils]]⟩) → ∃ m0, m0 < (cells.length) - k ∧ ∃ k : Nat, m0 = (cells.length) - k ∧ k ≤ (cells.length) ∧ e 14 = .int .i64 (k : Int) ∧ (∃ x is, gg ⟨57001005, σ.next + 1⟩ = some ⟨true, 4, [[.sl (s.g_Glues.map eGlue), .sl (s.g_Tiles.map eTile), .int .i64 temp, x]]⟩ ∧ CellsO gg x (cells.take k) is ∧ NewIds (σ.next + 2) nx is ∧ σ.next + 2 ≤ nx ∧ ∀ j : Id, j.ver < σ.next → gg j = σ.get j) ∧ gg ⟨57000001, σ.next⟩ = some ⟨true, 4, [[.nils, .nils, .int .i64 0, .nils]]⟩ := fun x1 x2 x3 => ⟨_, by omega, k + 1, rfl, by omega, (by rw [x1, wrap_succ2 (by omega)]), x2, x3⟩
    have hi : k < cells.length := by omega
    obtain ⟨cs0, ic, hgi, ⟨ca, cb, cf, j1, j2, j3, hcs, hO1, hO2, hO3, hic⟩, hsub⟩ := hR0.at_ k hi
    have hso : st_a.get o0 = some ⟨true, 6, rows0⟩ := (hK o0 hov).trans ho0
    have hsf : ∀ i ∈ ic, i.ver < σ.next ∧ st_a.get i = σ.get i := fun i hi => ⟨hv0 i (by simp [hsub i hi]), hK i (hv0 i (by simp [hsub i hi]))⟩
    subst hic
    replace hO1 := hO1.frame fun i hi => (hsf i (by simp [hi])).2
    replace hO2 := hO2.frame fun i hi => (hsf i (by simp [hi])).2
    replace hO3 := hO3.frame fun i hi => (hsf i (by simp [hi])).2
    have hl : ∀ i ∈ j1 ++ (j2 ++ j3), i.ver < st_a.next := fun i hi => by have := (hsf i hi).1; omega
    have q1 := hO1.cell
    have q2 := hO2.cell
    have q3 := hO3.cell
    simp only [AV.cell] at q1 q2 q3
    have w1 := vne (show o0.ver < st_a.next by omega)
    subst hcs
    clear hsf hsub
    have hbb := hb _ (List.getElem_mem hi)
    have hts : cells.take (k + 1) = cells.take k ++ [cells[k]] := List.take_succ_eq_append_getElem hi
    generalize cells[k] = c at *
    obtain ⟨c1, c2, c3⟩ := hbb
    have m1 := cloneBool_m c.g_On (by omega) (by omega)
    have m2 := cloneBool_m c.g_Bound (by omega) (by omega)
    rcases hO with ⟨h0, rfl, rfl⟩ | ⟨o, rows, is, rfl, ho, hR, rfl⟩
    · by_cases hf : 0 < c.g_Fired.length
      · have m3 := cloneBool_m c.g_Fired (by omega) (by omega)
        (repeat (first | ((repeat (revert hN; revert N; apply Pn.out)); refine wk (tw @a14 (tw @ag0 (tw @a2 (tw @a3 (tw @a12 (tw @a13 (tw @ag (tw @hk (tw @hgi (tw @hso (tw @w1 (tw @q1 (tw @q2 @q3))))))))))))) ?_; (repeat (refine Pn.mk ?_; intro N hN))) | (refine .inr ⟨_, _, RowM.x (m1) (fz1o hO1 (fun i hi => sd (vne (hl i (by simp [hi]))))), ?_⟩; refine hN _ _ ?_; clear hN N) | (refine .inr ⟨_, _, RowM.x (m2) (fz1o hO2 (fun i hi => sd (vne (hl i (by simp [hi]))))), ?_⟩; refine hN _ _ ?_; clear hN N) | (refine .inr ⟨_, _, RowM.x (m3) (fz1o hO3 (fun i hi => sd (vne (hl i (by simp [hi]))))), ?_⟩; refine hN _ _ ?_; clear hN N)))
        refine nexta (sd (tw @a14 (tw @ag0 (tw @a2 (tw @a3 (tw @a12 @a13)))))) ⟨.own ⟨57005017, st_a.next + 1 + 1⟩ 0 1, ⟨57005017, st_a.next + 1 + 1⟩ :: ([] ++ ([⟨57005008, st_a.next + 1 + 1⟩] ++ ([⟨57005011, st_a.next + 1 + 1⟩] ++ [⟨57005014, st_a.next + 1 + 1⟩]))), sd @Nat.zero_add, ?_, new_snoc (n := st_a.next) ⟨List.nodup_nil, (fun i h => by cases h)⟩ (by simp) (fun i hi => ?_) (by simp) (by (try dsimp only); omega) (by omega) (by (try dsimp only); omega), by (try dsimp only); omega, fun j hj => ?_⟩ (sd (tw @a14 (tw @ag0 (tw @a2 (tw @a3 (tw @a12 @a13))))))
        · rw [hts, h0]
          refine snocO (o := ⟨57005017, st_a.next + 1 + 1⟩) (is := []) (cs := [.int .i64 c.g_At.g_X, .int .i64 c.g_At.g_Y, .int .i64 c.g_Tile, .own ⟨57005008, st_a.next + 1 + 1⟩ 0 c.g_On.length, .own ⟨57005011, st_a.next + 1 + 1⟩ 0 c.g_Bound.length, .own ⟨57005014, st_a.next + 1 + 1⟩ 0 c.g_Fired.length]) (c := c) (ids := [⟨57005008, st_a.next + 1 + 1⟩] ++ ([⟨57005011, st_a.next + 1 + 1⟩] ++ [⟨57005014, st_a.next + 1 + 1⟩])) (rows := []) ?_ ?_ ?_
          · exact RowsN.nil
          · exact ⟨_, _, _, _, _, _, rfl, .inl ⟨_, rfl, sd @Nat.zero_add, rfl⟩, .inl ⟨_, rfl, sd @Nat.zero_add, rfl⟩, .inl ⟨_, rfl, sd @Nat.zero_add, rfl⟩, rfl⟩
          · simp only [go_sem, ↓reduceIte, Nat.reduceEqDiff, Nat.reduceAdd, Nat.reduceSub, Nat.reduceLeDiff, reduceCtorEq]
        · simp at hi
          rcases hi with rfl | rfl | rfl <;> simp <;> omega
        · have h1 := hK j hj
          simp only [go_sem, ↓reduceIte, Nat.reduceEqDiff, Nat.reduceAdd, Nat.reduceSub, Nat.reduceLeDiff, reduceCtorEq, vne (show j.ver < st_a.next by omega), vne hj, h1]
      · have hf0 : c.g_Fired = [] := by simpa using hf
        have m3 := cloneBoolO_v (hf0 ▸ hO3)
        (repeat (first | ((repeat (revert hN; revert N; apply Pn.out)); refine wk (tw @a14 (tw @ag0 (tw @a2 (tw @a3 (tw @a12 (tw @a13 (tw @ag (tw @hk (tw @hgi (tw @hso (tw @w1 (tw @q1 (tw @q2 (tw @q3 @hf0)))))))))))))) ?_; (repeat (refine Pn.mk ?_; intro N hN))) | (refine .inr ⟨_, _, RowM.x (m1) (fz1o hO1 (fun i hi => sd (vne (hl i (by simp [hi]))))), ?_⟩; refine hN _ _ ?_; clear hN N) | (refine .inr ⟨_, _, RowM.x (m2) (fz1o hO2 (fun i hi => sd (vne (hl i (by simp [hi]))))), ?_⟩; refine hN _ _ ?_; clear hN N) | ((try apply Or.inl); refine ⟨_, Ret.x (m3) _, ?_⟩; refine hN _ _ ?_; clear hN N)))
        refine nexta (sd (tw @a14 (tw @ag0 (tw @a2 (tw @a3 (tw @a12 @a13)))))) ⟨.own ⟨57005017, st_a.next + 1 + 1⟩ 0 1, ⟨57005017, st_a.next + 1 + 1⟩ :: ([] ++ ([⟨57005008, st_a.next + 1 + 1⟩] ++ ([⟨57005011, st_a.next + 1 + 1⟩] ++ []))), sd @Nat.zero_add, ?_, new_snoc (n := st_a.next) ⟨List.nodup_nil, (fun i h => by cases h)⟩ (by simp) (fun i hi => ?_) (by simp) (by (try dsimp only); omega) (by omega) (by (try dsimp only); omega), by (try dsimp only); omega, fun j hj => ?_⟩ (sd (tw @a14 (tw @ag0 (tw @a2 (tw @a3 (tw @a12 @a13))))))
        · rw [hts, h0]
          refine snocO (o := ⟨57005017, st_a.next + 1 + 1⟩) (is := []) (cs := [.int .i64 c.g_At.g_X, .int .i64 c.g_At.g_Y, .int .i64 c.g_Tile, .own ⟨57005008, st_a.next + 1 + 1⟩ 0 c.g_On.length, .own ⟨57005011, st_a.next + 1 + 1⟩ 0 c.g_Bound.length, .sl []]) (c := c) (ids := [⟨57005008, st_a.next + 1 + 1⟩] ++ ([⟨57005011, st_a.next + 1 + 1⟩] ++ [])) (rows := []) ?_ ?_ ?_
          · exact RowsN.nil
          · exact ⟨_, _, _, _, _, _, rfl, .inl ⟨_, rfl, sd @Nat.zero_add, rfl⟩, .inl ⟨_, rfl, sd @Nat.zero_add, rfl⟩, .inr ⟨hf0, rfl, rfl⟩, rfl⟩
          · simp only [go_sem, ↓reduceIte, Nat.reduceEqDiff, Nat.reduceAdd, Nat.reduceSub, Nat.reduceLeDiff, reduceCtorEq]
        · simp at hi
          rcases hi with rfl | rfl <;> simp <;> omega
        · have h1 := hK j hj
          simp only [go_sem, ↓reduceIte, Nat.reduceEqDiff, Nat.reduceAdd, Nat.reduceSub, Nat.reduceLeDiff, reduceCtorEq, vne (show j.ver < st_a.next by omega), vne hj, h1]
    · have hov := (hN2.2 o (by simp))
      have v1 := vne hov.2
      have hrl : rows.length = (cells.take k).length := hR.len
      have e1 : (cells.take k).length + 1 ≤ 16777216 := by rw [List.length_take]; omega
      have x1 : ∀ s0, (o = ⟨s0, σ.next + 1⟩) = False ∧ (⟨s0, σ.next + 1⟩ = o) = False ∧ (o = ⟨s0, σ.next⟩) = False ∧ (⟨s0, σ.next⟩ = o) = False := fun s0 => by
        obtain ⟨oa, ob⟩ := o
        simp only [Id.mk.injEq, eq_iff_iff, iff_false, not_and]
        simp only at hov
        refine ⟨?_, ?_, ?_, ?_⟩ <;> (intros; omega)
      have x2 : ∀ i ∈ is, ∀ s0, (i = ⟨s0, σ.next + 1⟩) = False := fun i hi s0 => by
        have := hN2.2 i (by simp [hi])
        obtain ⟨oa, ob⟩ := i
        simp only [Id.mk.injEq, eq_iff_iff, iff_false, not_and]
        simp only at this
        intros; omega
      have jo : ∀ j : Id, j.ver < σ.next → (j = o) = False := fun j hj => by
        simp only [eq_iff_iff, iff_false]; rintro rfl; omega
      by_cases hf : 0 < c.g_Fired.length
      · have m3 := cloneBool_m c.g_Fired (by omega) (by omega)
        (repeat (first | ((repeat (revert hN; revert N; apply Pn.out)); refine wk (tw @a14 (tw @ag0 (tw @a2 (tw @a3 (tw @a12 (tw @a13 (tw @ag (tw @hk (tw @hgi (tw @hso (tw @w1 (tw @q1 (tw @q2 (tw @q3 (tw @ho (tw @v1 (tw @x1 (tw @hrl @e1)))))))))))))))))) ?_; (repeat (refine Pn.mk ?_; intro N hN))) | (refine .inr ⟨_, _, RowM.x (m1) (fz1o hO1 (fun i hi => sd (vne (hl i (by simp [hi]))))), ?_⟩; refine hN _ _ ?_; clear hN N) | (refine .inr ⟨_, _, RowM.x (m2) (fz1o hO2 (fun i hi => sd (vne (hl i (by simp [hi]))))), ?_⟩; refine hN _ _ ?_; clear hN N) | (refine .inr ⟨_, _, RowM.x (m3) (fz1o hO3 (fun i hi => sd (vne (hl i (by simp [hi]))))), ?_⟩; refine hN _ _ ?_; clear hN N)))
        refine nexta (sd (tw @a14 (tw @ag0 (tw @a2 (tw @a3 (tw @a12 @a13)))))) ⟨.own ⟨57005017, st_a.next + 1 + 1⟩ 0 ((cells.take k).length + 1), ⟨57005017, st_a.next + 1 + 1⟩ :: (is ++ ([⟨57005008, st_a.next + 1 + 1⟩] ++ ([⟨57005011, st_a.next + 1 + 1⟩] ++ [⟨57005014, st_a.next + 1 + 1⟩]))), sd @Nat.zero_add, ?_, new_snoc (n := st_a.next) (new_tail hN2).1 (by simp) (fun i hi => ?_) (by simp) (by (try dsimp only); omega) (by omega) (by (try dsimp only); omega), by (try dsimp only); omega, fun j hj => ?_⟩ (sd (tw @a14 (tw @ag0 (tw @a2 (tw @a3 (tw @a12 (tw @a13 @x1)))))))
        · rw [hts]
          refine snocO (o := ⟨57005017, st_a.next + 1 + 1⟩) (is := is) (cs := [.int .i64 c.g_At.g_X, .int .i64 c.g_At.g_Y, .int .i64 c.g_Tile, .own ⟨57005008, st_a.next + 1 + 1⟩ 0 c.g_On.length, .own ⟨57005011, st_a.next + 1 + 1⟩ 0 c.g_Bound.length, .own ⟨57005014, st_a.next + 1 + 1⟩ 0 c.g_Fired.length]) (c := c) (ids := [⟨57005008, st_a.next + 1 + 1⟩] ++ ([⟨57005011, st_a.next + 1 + 1⟩] ++ [⟨57005014, st_a.next + 1 + 1⟩])) (rows := rows) ?_ ?_ ?_
          · exact (hR.frame cellOk fun i hi => sd (tw (vne ((new_tail hN2).1.2 i hi).2) (tw ((new_tail hN2).2 i hi) (x2 i hi))))
          · exact ⟨_, _, _, _, _, _, rfl, .inl ⟨_, rfl, sd @v1, rfl⟩, .inl ⟨_, rfl, sd @v1, rfl⟩, .inl ⟨_, rfl, sd @v1, rfl⟩, rfl⟩
          · simp only [go_sem, ↓reduceIte, Nat.reduceEqDiff, Nat.reduceAdd, Nat.reduceSub, Nat.reduceLeDiff, reduceCtorEq]
        · simp at hi
          rcases hi with rfl | rfl | rfl <;> simp <;> omega
        · have h1 := hK j hj
          simp only [go_sem, ↓reduceIte, Nat.reduceEqDiff, Nat.reduceAdd, Nat.reduceSub, Nat.reduceLeDiff, reduceCtorEq, vne (show j.ver < st_a.next by omega), vne hj, jo j hj, h1]
      · have hf0 : c.g_Fired = [] := by simpa using hf
        have m3 := cloneBoolO_v (hf0 ▸ hO3)
        (repeat (first | ((repeat (revert hN; revert N; apply Pn.out)); refine wk (tw @a14 (tw @ag0 (tw @a2 (tw @a3 (tw @a12 (tw @a13 (tw @ag (tw @hk (tw @hgi (tw @hso (tw @w1 (tw @q1 (tw @q2 (tw @q3 (tw @ho (tw @v1 (tw @x1 (tw @hrl (tw @e1 @hf0))))))))))))))))))) ?_; (repeat (refine Pn.mk ?_; intro N hN))) | (refine .inr ⟨_, _, RowM.x (m1) (fz1o hO1 (fun i hi => sd (vne (hl i (by simp [hi]))))), ?_⟩; refine hN _ _ ?_; clear hN N) | (refine .inr ⟨_, _, RowM.x (m2) (fz1o hO2 (fun i hi => sd (vne (hl i (by simp [hi]))))), ?_⟩; refine hN _ _ ?_; clear hN N) | ((try apply Or.inl); refine ⟨_, Ret.x (m3) _, ?_⟩; refine hN _ _ ?_; clear hN N)))
        refine nexta (sd (tw @a14 (tw @ag0 (tw @a2 (tw @a3 (tw @a12 @a13)))))) ⟨.own ⟨57005017, st_a.next + 1 + 1⟩ 0 ((cells.take k).length + 1), ⟨57005017, st_a.next + 1 + 1⟩ :: (is ++ ([⟨57005008, st_a.next + 1 + 1⟩] ++ ([⟨57005011, st_a.next + 1 + 1⟩] ++ []))), sd @Nat.zero_add, ?_, new_snoc (n := st_a.next) (new_tail hN2).1 (by simp) (fun i hi => ?_) (by simp) (by (try dsimp only); omega) (by omega) (by (try dsimp only); omega), by (try dsimp only); omega, fun j hj => ?_⟩ (sd (tw @a14 (tw @ag0 (tw @a2 (tw @a3 (tw @a12 (tw @a13 @x1)))))))
        · rw [hts]
          refine snocO (o := ⟨57005017, st_a.next + 1 + 1⟩) (is := is) (cs := [.int .i64 c.g_At.g_X, .int .i64 c.g_At.g_Y, .int .i64 c.g_Tile, .own ⟨57005008, st_a.next + 1 + 1⟩ 0 c.g_On.length, .own ⟨57005011, st_a.next + 1 + 1⟩ 0 c.g_Bound.length, .sl []]) (c := c) (ids := [⟨57005008, st_a.next + 1 + 1⟩] ++ ([⟨57005011, st_a.next + 1 + 1⟩] ++ [])) (rows := rows) ?_ ?_ ?_
          · exact (hR.frame cellOk fun i hi => sd (tw (vne ((new_tail hN2).1.2 i hi).2) (tw ((new_tail hN2).2 i hi) (x2 i hi))))
          · exact ⟨_, _, _, _, _, _, rfl, .inl ⟨_, rfl, sd @v1, rfl⟩, .inl ⟨_, rfl, sd @v1, rfl⟩, .inr ⟨hf0, rfl, rfl⟩, rfl⟩
          · simp only [go_sem, ↓reduceIte, Nat.reduceEqDiff, Nat.reduceAdd, Nat.reduceSub, Nat.reduceLeDiff, reduceCtorEq]
        · simp at hi
          rcases hi with rfl | rfl <;> simp <;> omega
        · have h1 := hK j hj
          simp only [go_sem, ↓reduceIte, Nat.reduceEqDiff, Nat.reduceAdd, Nat.reduceSub, Nat.reduceLeDiff, reduceCtorEq, vne (show j.ver < st_a.next by omega), vne hj, jo j hj, h1]
  · have hkf : k = cells.length := by omega
    subst hkf
    rw [List.take_length] at hO
    have hxc : x.cell = true := by
      rcases hO with ⟨_, rfl, _⟩ | ⟨_, _, _, rfl, _⟩ <;> rfl
    simp only [AV.cell] at hxc
    (try ((repeat (revert hN; revert N; apply Pn.out)); refine wk (tw @a14 (tw @ag0 (tw @a2 (tw @a3 (tw @a12 (tw @a13 (tw @ag (tw @hk @hxc)))))))) ?_; (repeat (refine Pn.mk ?_; intro N hN))))
    refine retO (.inl rfl) (by simp only [vresL, vres1, go_sem, ↓reduceIte, Nat.reduceEqDiff, Nat.reduceAdd, Nat.reduceSub, Nat.reduceLeDiff, reduceCtorEq, a14, ag0, a2, a3, a12, a13]; rfl) ⟨x, is, rfl, hO.frame cellOk fun i hi => ?_, hN2.wide (by omega) (by (try dsimp only); omega), by (try dsimp only); omega, fun j hj => ?_⟩
    · have := hN2.2 i hi
      have hne : (i = ⟨57000001, σ.next⟩) = False := by
        obtain ⟨ia, ib⟩ := i
        simp only [Id.mk.injEq, eq_iff_iff, iff_false, not_and]
        simp only at this
        intros; omega
      simp only [go_sem, ↓reduceIte, Nat.reduceEqDiff, Nat.reduceAdd, Nat.reduceSub, Nat.reduceLeDiff, reduceCtorEq, hne]
    · have h1 := hK j hj
      simp only [go_sem, ↓reduceIte, Nat.reduceEqDiff, Nat.reduceAdd, Nat.reduceSub, Nat.reduceLeDiff, reduceCtorEq, vne hj, h1]

end Go.Proofs.YtpbniieiinhliaaGreat.V
