/- Contracts of the world level over slices, brought into the small language: copies and the check of a tile set. -/
import Derived.Test.YtpbniieiinhliaaGreatRnH
import Derived.Test.YtpbniieiinhliaaGreatRnJ
import Derived.Test.YtpbniieiinhliaaGreatRnG
import Derived.Test.YtpbniieiinhliaaGreatRnI
import Derived.Test.YtpbniieiinhliaaGreatRnM
import Derived.Test.YtpbniieiinhliaaGreatRnK
import Derived.Test.YtpbniieiinhliaaGreatRnL
set_option linter.unusedVariables false
set_option linter.unusedSimpArgs false
namespace Go.Proofs.YtpbniieiinhliaaGreat.V
open Go.RowKit

variable {P : Program} {w w' : World} {D : Nat → Prop} {ι : Names}

def scal : AV → Option Value
  | .int k n => some (.int k n)
  | .bool b => some (.bool b)
  | .str s => some (.string s)
  | _ => none
theorem imm_of_scal {a : AV} {u : Value} (h : scal a = some u) : Imm P w D a u := by
  cases a <;> simp [scal] at h <;> subst h <;> constructor
theorem scal_of_imm {a : AV} {u v : Value} (h : scal a = some u) (hi : Imm P w D a v) : v = u := by
  cases a <;> simp [scal] at h <;> subst h <;> cases hi <;> rfl
/-- An encoding of scalars. -/
def FlatE {α : Type} (e : α → List AV) (enc : α → List Value) : Prop := ∀ x, (e x).map scal = (enc x).map some
theorem FlatE.get {α : Type} {e : α → List AV} {enc : α → List Value} (h : FlatE e enc) {x : α} {j : Nat} {a : AV} (ha : (e x)[j]? = some a) : ∃ u, (enc x)[j]? = some u ∧ scal a = some u := by
  have := congrArg (fun l => l[j]?) (h x)
  simp only [List.getElem?_map, ha, Option.map_some] at this
  cases hj : (enc x)[j]? with
  | none => rw [hj] at this; simp at this
  | some u => rw [hj] at this; simp at this; exact ⟨u, rfl, this⟩
theorem FlatE.len {α : Type} {e : α → List AV} {enc : α → List Value} (h : FlatE e enc) (x : α) : (e x).length = (enc x).length := by
  have := congrArg List.length (h x)
  simpa using this
theorem FlatE.imm {α : Type} {e : α → List AV} {enc : α → List Value} (h : FlatE e enc) (x : α) : CellsImm P w D (e x) (enc x) := fun j a ha => by
  obtain ⟨u, h1, h2⟩ := h.get ha
  exact ⟨u, h1, imm_of_scal h2⟩
theorem FlatE.eq {α : Type} {e : α → List AV} {enc : α → List Value} (h : FlatE e enc) {x : α} {cs : List Value} (hl : cs.length = (e x).length) (hc : CellsImm P w D (e x) cs) : cs = enc x :=
  cells_flat hc hl (fun j a ha u hi => by
    obtain ⟨v, h1, h2⟩ := h.get ha
    rw [h1, scal_of_imm h2 hi]) (h.len x).symm
theorem FlatE.cell {α : Type} {e : α → List AV} {enc : α → List Value} (h : FlatE e enc) (x : α) : ∀ a ∈ e x, a.cell = true := fun a ha => by
  obtain ⟨j, hj, rfl⟩ := List.getElem_of_mem ha
  obtain ⟨u, _, h2⟩ := h.get (List.getElem?_eq_getElem hj)
  revert h2
  cases (e x)[j] <;> simp [scal, AV.cell]
theorem flat_imm {α : Type} {e : α → List AV} {enc : α → List Value} {sz : Nat} {f : List Nat} {v : Value} {xs : List α} (hE : FlatE e enc) (hz : ∀ x, (e x).length = sz) (h : SlOf (Flat enc) sz w f v xs) (hD : ∀ b ∈ f, D b) : Imm P w D (.sl (xs.map e)) v :=
  slof_imm h hD (fun x _ => hz x) (fun x _ => hE.cell x) fun x _ f' cs hr _ => by
    obtain ⟨_, rfl⟩ := hr
    exact hE.imm x
theorem imm_flat {α : Type} {e : α → List AV} {enc : α → List Value} {sz : Nat} {v : Value} {xs : List α} (hE : FlatE e enc) (hz : ∀ x, (e x).length = sz) (h : Imm P w D (.sl (xs.map e)) v) : ∃ f, (∀ b ∈ f, D b) ∧ SlOf (Flat enc) sz w f v xs :=
  imm_slof h (fun x _ => hz x) fun x _ cs hl hc => ⟨[], by simp, rfl, hE.eq (by rw [hl, hz]) hc⟩
theorem flatGlue : FlatE eGlue enc_Glue := fun _ => rfl
theorem flatInt : FlatE eInt enc_Int64 := fun _ => rfl
theorem flatBool : FlatE eBool enc_Bool := fun _ => rfl
theorem flatFire : FlatE eFire enc_Fire := fun _ => rfl
theorem rep_imm_sl {rows : List (List AV)} {v : Value} (h : Rep P w D ι (.sl rows) v) : Imm P w D (.sl rows) v := by
  cases h with
  | imm _ _ h => exact h

/-- A contract with one slice for an argument and a slice of new memory for a result. -/
theorem ret_of_fresh {α : Type} {f : Nat} {e : α → List AV} {enc : α → List Value} {sz : Nat} {xs : List α} (hE : FlatE e enc) (hz : ∀ x, (e x).length = sz)
    (h : ∀ (w : World) (A : Option Addr) (c : Nat) (fp : List Nat), SlOf (Flat enc) sz w fp (.slice A xs.length c) xs → Within fp 0 w.heap.size → Calls P f #[.slice A xs.length c] w fun e w' => ∃ fp A' c', e = .returned (.slice A' xs.length c') ∧ SlOf (Flat enc) sz w' fp (.slice A' xs.length c') xs ∧ Fresh w w' fp ∧ Below w.heap.size w w') :
    Ret P f [.sl (xs.map e)] (.sl (xs.map e)) := by
  intro σ
  refine Call_world fun hs D ι w vs S U A => ?_
  obtain ⟨u, us, rfl, h1, h2⟩ := repL_cons A
  have := repL_nil h2
  simp at this; subst this
  obtain ⟨fp, hfp, hS⟩ := imm_flat hE hz (rep_imm_sl h1)
  obtain ⟨A', c, rfl, _, _⟩ := SlOf.len hS
  refine (h w A' c fp hS fun b hb => ⟨Nat.zero_le _, S.dead b (hfp b hb)⟩).mono ?_
  rintro e' w' ⟨fp', B, c', rfl, hS', hF, hb⟩
  have hD' : ∀ b, (D b ∨ b ∈ fp') → b < w'.heap.size := fun b hb' => by
    rcases hb' with h | h
    · exact Nat.lt_of_lt_of_le (S.dead b h) hb.size
    · exact (hF.1 b h).2
  have hN : ∀ b, (D b ∨ b ∈ fp') → D b ∨ w.heap.size ≤ b := fun b hb' => by
    rcases hb' with h | h
    · exact .inl h
    · exact .inr (hF.1 b h).1
  exact ⟨.sl (xs.map e), _, σ.next, fun b => D b ∨ b ∈ fp', ι, .slice B xs.length c', rfl, ⟨_, fz_sl _ _ _, rfl⟩, Step.stay S hb.block hb.size hb.os hb.tape hb.output (fun _ h => .inl h) hN (fun _ _ h => h),
    S.stay hb.block hb.size (fun _ h => .inl h) hD' hN (fun _ _ h => h), U, Nat.le_refl _, .imm _ _ (flat_imm hE hz hS' fun b hb => .inr hb)⟩

theorem cloneGlue_v (gs : List D_Glue) (h : gs.length ≤ 1048576) : Ret Tryz.prog 148 [.sl (gs.map eGlue)] (.sl (gs.map eGlue)) :=
  ret_of_fresh flatGlue (fun _ => rfl) fun w A c fp hS hw => cloneGlue_any w A gs.length c fp gs hS hw h
theorem cloneInt_v (l : List Int) (h : l.length ≤ 1048576) : Ret Tryz.prog 149 [.sl (l.map eInt)] (.sl (l.map eInt)) :=
  ret_of_fresh flatInt (fun _ => rfl) fun w A c fp hS hw => cloneInt64_any w A l.length c fp l hS hw h
theorem cloneBool_v (l : List Bool) (h : l.length ≤ 1048576) : Ret Tryz.prog 98 [.sl (l.map eBool)] (.sl (l.map eBool)) :=
  ret_of_fresh flatBool (fun _ => rfl) fun w A c fp hS hw => cloneBool_any w A l.length c fp l hS hw h

theorem imm_xtiles {ts : List XTile} {v : Value} (h : Imm P w D (.sl (ts.map eXTile)) v) : ∃ f, (∀ b ∈ f, D b) ∧ S_XTileS w f v ts :=
  imm_slof h (fun _ _ => rfl) fun x _ cs hl hc => by
    obtain ⟨u0, h0, i0⟩ := hc 0 (.str x.name) rfl
    obtain ⟨u1, h1, i1⟩ := hc 1 (.sl (x.sides.map eInt)) rfl
    obtain ⟨f, hf, hS⟩ := imm_flat flatInt (fun _ => rfl) i1
    have e0 := scal_of_imm (a := .str x.name) rfl i0
    subst e0
    refine ⟨f, hf, u1, ?_, hS⟩
    match cs, hl, h0, h1 with
    | [a, b], _, h0, h1 => simp at h0 h1; rw [h0, h1]

theorem validSet_v (gs : List D_Glue) (ts : List XTile) (hsg : ∀ g ∈ gs, g.g_Name.size ≤ 9223372036854775807) (hst : ∀ t ∈ ts, t.name.size ≤ 9223372036854775807) :
    Ret Tryz.prog 130 [.agg [.sl (gs.map eGlue), slN (ts.map eXTile)]] (.bool (setB gs ts)) := by
  intro σ
  refine Call_world fun hs D ι w vs S U A => ?_
  obtain ⟨u, us, rfl, h1, h2⟩ := repL_cons A
  have := repL_nil h2
  simp at this; subst this
  obtain ⟨cs, f, rfl, hsz, _, hf, hr⟩ := rep_agg h1
  have r0 := hr 0 _ rfl
  have r1 := hr 1 _ rfl
  have e0 := hf 0 (by simp)
  have e1 := hf 1 (by simp)
  obtain ⟨l⟩ := cs
  obtain ⟨p, q, rfl⟩ : ∃ p q, l = [p, q] := by
    match l, hsz with
    | [p, q], _ => exact ⟨p, q, rfl⟩
  simp at e0 e1
  rw [← e0] at r0
  rw [← e1] at r1
  obtain ⟨f0, hf0, hS0⟩ := imm_flat (w := w) (sz := 2) flatGlue (fun _ => rfl) (rep_imm_sl r0)
  obtain ⟨f1, hf1, hS1⟩ : ∃ f1, (∀ b ∈ f1, D b) ∧ S_XTileS w f1 q ts := by
    unfold slN at r1
    split at r1
    · rename_i h0
      have h0' : ts = [] := by simpa using h0
      subst h0'
      rw [rep_nils r1]
      exact ⟨[], by simp, SlOf.nil _ _ _⟩
    · exact imm_xtiles (rep_imm_sl r1)
  obtain ⟨A0, c0, rfl, _, _⟩ := SlOf.len hS0
  obtain ⟨A1, c1, rfl, _, _⟩ := SlOf.len hS1
  refine (validSet_any w A0 gs.length c0 f0 gs A1 ts.length c1 f1 ts hS0 hS1 (fun b hb => ⟨Nat.zero_le _, S.dead b (hf0 b hb)⟩) (fun b hb => ⟨Nat.zero_le _, S.dead b (hf1 b hb)⟩) (fun i h => hsg _ (List.getElem_mem h)) (fun i h => hst _ (List.getElem_mem h))).mono ?_
  rintro e' w' ⟨rfl, hb⟩
  exact ⟨_, _, σ.next, D, ι, _, rfl, ⟨_, fz_bool _ _ _, rfl⟩, Step.stay S hb.block hb.size hb.os hb.tape hb.output (fun _ h => h) (fun _ h => .inl h) (fun _ _ h => h),
    S.stay hb.block hb.size (fun _ h => h) (fun b hd => Nat.lt_of_lt_of_le (S.dead b hd) hb.size) (fun _ h => .inl h) (fun _ _ h => h), U, Nat.le_refl _, .imm _ _ (.bool _)⟩

end Go.Proofs.YtpbniieiinhliaaGreat.V

namespace Go.Proofs.YtpbniieiinhliaaGreat.V
open Go.RowKit

theorem fz1 {a : AV} {g : Rows} {l : List AV} (h : a = .agg l) (hl : ∀ g, fzRow g 5 l = some l) : fzRow g 6 [a] = some [a] := by
  subst h; rw [fzRow_cons, fz_agg, hl, fzRow_nil]; rfl
theorem elt_cell : Elt eCell (fun c => .agg (eCell c)) 6 true := ⟨fun _ => rfl, fun _ => rfl, fun x g => fz1 rfl fun g => by simp [eCell, fzRow_cons, fzRow_nil, fz_int, fz_sl]⟩
theorem elt_tile : Elt eTile (fun c => .agg (eTile c)) 4 true := ⟨fun _ => rfl, fun _ => rfl, fun x g => fz1 rfl fun g => by simp [eTile, fzRow_cons, fzRow_nil, fz_str, fz_sl]⟩
theorem elt_fire : Elt eFire (fun c => .agg (eFire c)) 2 true := ⟨fun _ => rfl, fun _ => rfl, fun x g => fz1 rfl fun g => by simp [eFire, fzRow_cons, fzRow_nil, fz_int]⟩
theorem elt_int : Elt eInt (fun c => .int .i64 c) 1 false := ⟨fun _ => rfl, fun _ => rfl, fun x g => by rw [fzRow_cons, fz_int, fzRow_nil]; rfl⟩
theorem containsFuncCells_v (xs : List D_SignalCell) (hlen : xs.length ≤ 1048576) (f : Nat) (caps : List AV) (p : D_SignalCell → Bool) (hcap : caps.all AV.cell = true) (hfz : ∀ g, fzRow g 5 caps = some caps)
    (hf : ∀ x ∈ xs, RetS Tryz.prog f (.agg (eCell x) :: caps) (.bool (p x))) (hfa : ∀ g, fzRow g 6 caps = some caps) :
    RetS Tryz.prog 109 [.sl (xs.map eCell), .fn f caps] (.bool (xs.any p)) :=
  containsFunc_g elt_cell (show cFn Tryz.prog 109 = some (hasFnC 109 136) by kernel_rfl) (show cFn Tryz.prog 136 = some (idxFnC 136 6 true) by kernel_rfl) xs hlen f caps p hcap hfz hf hfa
theorem containsFuncTiles_v (xs : List D_SignalTile) (hlen : xs.length ≤ 1048576) (f : Nat) (caps : List AV) (p : D_SignalTile → Bool) (hcap : caps.all AV.cell = true) (hfz : ∀ g, fzRow g 5 caps = some caps)
    (hf : ∀ x ∈ xs, RetS Tryz.prog f (.agg (eTile x) :: caps) (.bool (p x))) (hfa : ∀ g, fzRow g 6 caps = some caps) :
    RetS Tryz.prog 132 [.sl (xs.map eTile), .fn f caps] (.bool (xs.any p)) :=
  containsFunc_g elt_tile (show cFn Tryz.prog 132 = some (hasFnC 132 150) by kernel_rfl) (show cFn Tryz.prog 150 = some (idxFnC 150 4 true) by kernel_rfl) xs hlen f caps p hcap hfz hf hfa
theorem containsFuncFires_v (xs : List D_Fire) (hlen : xs.length ≤ 1048576) (f : Nat) (caps : List AV) (p : D_Fire → Bool) (hcap : caps.all AV.cell = true) (hfz : ∀ g, fzRow g 5 caps = some caps)
    (hf : ∀ x ∈ xs, RetS Tryz.prog f (.agg (eFire x) :: caps) (.bool (p x))) (hfa : ∀ g, fzRow g 6 caps = some caps) :
    RetS Tryz.prog 151 [.sl (xs.map eFire), .fn f caps] (.bool (xs.any p)) :=
  containsFunc_g elt_fire (show cFn Tryz.prog 151 = some (hasFnC 151 167) by kernel_rfl) (show cFn Tryz.prog 167 = some (idxFnC 167 2 true) by kernel_rfl) xs hlen f caps p hcap hfz hf hfa

end Go.Proofs.YtpbniieiinhliaaGreat.V

namespace Go.Proofs.YtpbniieiinhliaaGreat.V
open Go.RowKit
attribute [local irreducible] wpv wpOps PCx Call
attribute [local go_sem] wantedV vop qop eop vis evO upd envOf K.av boxOf AV.cells AV.cell rowOf rowsOf part ld rowAt setR killR ibin vbin vsh vclear vsbin sbin eq1 eqL xorB vnil vnilS vnilF hiOf loOf vslice vsliceS viaddr vidxS vidxA vlen vnot vneg vconv vconvS vpick vchk vfield vextract vlenS fillV vmk rowsIn putCs vstore vappend seqQ blockQ most AV.undef callW locP locQ List.getD_cons_zero List.getD_cons_succ List.getD_nil List.all_cons List.all_nil Bool.and_true Bool.true_and Bool.and_self Bool.not_true Bool.not_false Option.map_some Option.map_none Option.bind_some Option.bind_none List.length_cons List.length_nil List.take_succ_cons List.take_zero List.take_nil List.drop_succ_cons List.drop_zero List.drop_nil List.head?_cons List.map_cons List.map_nil List.getElem?_cons_zero List.getElem?_cons_succ List.cons_append List.nil_append List.append_nil List.length_map List.set_cons_zero List.set_cons_succ Nat.reduceMul eq_self Int.toNat_natCast Int.natCast_nonneg and_self true_and and_true decide_true decide_false Bool.false_eq_true Nat.zero_add Nat.add_zero List.contains_cons List.contains_nil Bool.or_false Bool.false_or beq_self_eq_true Nat.reduceBEq ne_eq not_true_eq_false not_false_eq_true Id.mk.injEq false_and and_false Nat.reduceLT Int.reduceLE Int.reduceLT Int.reduceToNat Int.reduceNeg Int.reduceAdd Nat.le_refl List.length_append beq_true beq_false Bool.not_eq_eq_eq_not or_false false_or rw_ fzRow_cons fzRow_nil fz_int fz_bool fz_str fz_sl fz_nils fz_agg fz_iptr fz_ptrE fz_fn

def fireBad (t : D_SignalTile) (f : D_Fire) : Bool := !inB f.g_From 0 3 || (!inB f.g_To 0 3 || (decide (f.g_From = f.g_To) || (decide (sideOf t f.g_From = 0) || decide (sideOf t f.g_To = 0))))
theorem fireBad_ok {t : D_SignalTile} {f : D_Fire} : fireBad t f = false ↔ FireOk t f := by
  simp only [fireBad, Bool.or_eq_false_iff, Bool.not_eq_false', decide_eq_false_iff_not]
  exact ⟨fun ⟨a, b, c, d, e⟩ => ⟨a, b, c, d, e⟩, fun h => ⟨h.fr, h.too, h.ne, h.sf, h.st⟩⟩

set_option maxRecDepth 100000 in
set_option maxHeartbeats 4000000 in
theorem signalsOk1_v (t : D_SignalTile) (f : D_Fire) (h4 : t.g_Sides.length = 4) : RetS Tryz.prog 152 [.agg (eFire f), .iptr (eTile t)] (.bool (fireBad t f)) := by
  refine RetS.body cfE rfl fun hl n0 => ?_
  clear hl
  unfold fireBad
  cases d1 : inB f.g_From 0 3
  · (repeat (first | ((repeat (revert hN; revert N; apply Pn.out)); refine wk (tw @d1 @eFire.eq_1) ?_; (repeat (refine Pn.mk ?_; intro N hN))) | ((try apply Or.inl); refine ⟨_, Ret.x (isDir_v _) _, ?_⟩; refine hN _ _ ?_; clear hN N)))
    exact ret1Sb (b := true) (.inl rfl) (sd @Nat.zero_add) (by simp)
  cases d2 : inB f.g_To 0 3
  · (repeat (first | ((repeat (revert hN; revert N; apply Pn.out)); refine wk (tw @d1 (tw @d2 @eFire.eq_1)) ?_; (repeat (refine Pn.mk ?_; intro N hN))) | ((try apply Or.inl); refine ⟨_, Ret.x (isDir_v _) _, ?_⟩; refine hN _ _ ?_; clear hN N)))
    exact ret1Sb (b := true) (.inl rfl) (sd @Nat.zero_add) (by simp)
  have j1 := (inB_true d1).1
  have j2 := (inB_true d2).1
  have k1 := (inB_true d1).2
  have k2 := (inB_true d2).2
  have g2 : (t.g_Sides.map eInt)[f.g_From.toNat]? = some (eInt (sideOf t f.g_From)) := get_map eInt (d := 0) (by omega)
  have g3 : (t.g_Sides.map eInt)[f.g_To.toNat]? = some (eInt (sideOf t f.g_To)) := get_map eInt (d := 0) (by omega)
  by_cases d3 : f.g_From = f.g_To
  · (repeat (first | ((repeat (revert hN; revert N; apply Pn.out)); refine wk (tw @d1 (tw @d2 (tw @d3 @eFire.eq_1))) ?_; (repeat (refine Pn.mk ?_; intro N hN))) | ((try apply Or.inl); refine ⟨_, Ret.x (isDir_v _) _, ?_⟩; refine hN _ _ ?_; clear hN N)))
    exact ret1Sb (b := true) (.inl rfl) (sd @Nat.zero_add) (by simp [d3])
  by_cases d4 : sideOf t f.g_From = 0
  · (repeat (first | ((repeat (revert hN; revert N; apply Pn.out)); refine wk (tw @g2 (tw @d1 (tw @d2 (tw @d3 (tw @d4 (tw @j1 (tw @eFire.eq_1 (tw @eInt.eq_1 @eTile.eq_1)))))))) ?_; (repeat (refine Pn.mk ?_; intro N hN))) | ((try apply Or.inl); refine ⟨_, Ret.x (isDir_v _) _, ?_⟩; refine hN _ _ ?_; clear hN N)))
    exact ret1Sb (b := true) (.inl rfl) (sd @Nat.zero_add) (by simp [d4])
  by_cases d5 : sideOf t f.g_To = 0
  · (repeat (first | ((repeat (revert hN; revert N; apply Pn.out)); refine wk (tw @g2 (tw @g3 (tw @d1 (tw @d2 (tw @d3 (tw @d4 (tw @d5 (tw @j1 (tw @j2 (tw @eFire.eq_1 (tw @eInt.eq_1 @eTile.eq_1))))))))))) ?_; (repeat (refine Pn.mk ?_; intro N hN))) | ((try apply Or.inl); refine ⟨_, Ret.x (isDir_v _) _, ?_⟩; refine hN _ _ ?_; clear hN N)))
    exact ret1Sb (b := true) (.inl rfl) (sd @Nat.zero_add) (by simp [d5])
  · (repeat (first | ((repeat (revert hN; revert N; apply Pn.out)); refine wk (tw @g2 (tw @g3 (tw @d1 (tw @d2 (tw @d3 (tw @d4 (tw @d5 (tw @j1 (tw @j2 (tw @eFire.eq_1 (tw @eInt.eq_1 @eTile.eq_1))))))))))) ?_; (repeat (refine Pn.mk ?_; intro N hN))) | ((try apply Or.inl); refine ⟨_, Ret.x (isDir_v _) _, ?_⟩; refine hN _ _ ?_; clear hN N)))
    exact ret1Sb (b := false) (.inl rfl) (sd @Nat.zero_add) (by simp [d3, d4, d5])

open Classical in
noncomputable def sgB (t : D_SignalTile) : Bool := decide (SigOk t)
theorem sgB_true {t} (h : SigOk t) : true = sgB t := by simp [sgB, h]
theorem sgB_false {t} (h : ¬ SigOk t) : false = sgB t := by simp [sgB, h]
theorem sgB_iff {t} : sgB t = true ↔ SigOk t := by simp [sgB]
theorem sigB_eq {s : D_SignalSet} (h : setB s.g_Glues (xtiles s) = true) : sigB s = !(s.g_Tiles.any fun t => !sgB t) := by
  rw [Bool.eq_iff_iff, sigB_iff, Bool.not_eq_true', List.any_eq_false]
  constructor
  · intro h t ht
    obtain ⟨i, hi, rfl⟩ := List.getElem_of_mem ht
    have := h.tiles i hi
    have e : s.g_Tiles[i] = tN s i := by simp [tN, List.getD_eq_getElem?_getD, hi]
    rw [e, sgB_iff.2 this]; simp
  · intro hh
    refine ⟨setB_iff.1 h, fun i hi => ?_⟩
    have := hh _ (tN_mem hi)
    simpa [sgB] using this

set_option maxRecDepth 100000 in
set_option maxHeartbeats 4000000 in
theorem signalsOk_v (t : D_SignalTile) (h4 : t.g_Sides.length = 4) : RetS Tryz.prog 134 [.agg (eTile t)] (.bool (sgB t)) := by
  refine RetS.body cfE rfl fun hl n0 => ?_
  clear hl
  by_cases c1 : (t.g_On.length : Int) = 4
  case neg =>
    (try ((repeat (revert hN; revert N; apply Pn.out)); refine wk (tw @eTile.eq_1 @c1) ?_; (repeat (refine Pn.mk ?_; intro N hN))))
    exact ret1Sb (b := false) (.inl rfl) (sd @Nat.zero_add) (sgB_false fun h => c1 (by rw [h.on]; rfl))
  by_cases c2 : (6 : Int) < t.g_Fires.length
  · (try ((repeat (revert hN; revert N; apply Pn.out)); refine wk (tw @eTile.eq_1 (tw @c1 @c2)) ?_; (repeat (refine Pn.mk ?_; intro N hN))))
    exact ret1Sb (b := false) (.inl rfl) (sd @Nat.zero_add) (sgB_false fun h => by have := h.few; omega)
  (try ((repeat (revert hN; revert N; apply Pn.out)); refine wk (tw @eTile.eq_1 (tw @c1 @c2)) ?_; (repeat (refine Pn.mk ?_; intro N hN))))
  refine w_loopF (fun n env st => ∃ d : Nat, n = (4) - d ∧ d ≤ (4) ∧ env 18 = .int .i64 (d : Int) ∧ (∀ j : Nat, j < d → bAt t.g_On j = true → sideOf t j ≠ 0) ∧ st.get ⟨134000000, n0⟩ = some ⟨true, 4, [eTile t]⟩) (4) ⟨0, by omega, by omega, by (try simp only [go_sem, ↓reduceIte, Nat.reduceEqDiff, Nat.reduceAdd, Nat.reduceSub, Nat.reduceLeDiff, reduceCtorEq, eTile]); try rfl, fun _ h => absurd h (Nat.not_lt_zero _), by (try simp only [go_sem, ↓reduceIte, Nat.reduceEqDiff, Nat.reduceAdd, Nat.reduceSub, Nat.reduceLeDiff, reduceCtorEq, eTile]); try rfl⟩ ?_
  rintro n_a env_a st_a ⟨d, rfl, ale, a18, aA0, ag0⟩ afr
  have a1 := afr 1 (by kernel_rfl); have a16 := afr 16 (by kernel_rfl); have a17 := afr 17 (by kernel_rfl)
  simp only [go_sem, ↓reduceIte, Nat.reduceEqDiff, Nat.reduceAdd, Nat.reduceSub, Nat.reduceLeDiff, reduceCtorEq, eTile] at a1 a16 a17
  clear afr
  by_cases hd : (d : Int) < 4
  · have nexta : ∀ {e : Env} {gg : Rows}, (e 18 = .int .i64 (IntKind.i64.wrap ((d : Int) + 1))) → (bAt t.g_On d = true → sideOf t d ≠ 0) → (gg ⟨134000000, n0⟩ = some ⟨true, 4, [eTile t]⟩) → ∃ m0, m0 < (4) - d ∧ ∃ d : Nat, m0 = (4) - d ∧ d ≤ (4) ∧ e 18 = .int .i64 (d : Int) ∧ (∀ j : Nat, j < d → bAt t.g_On j = true → sideOf t j ≠ 0) ∧ gg ⟨134000000, n0⟩ = some ⟨true, 4, [eTile t]⟩ := fun x1 x2 x3 => ⟨_, by omega, d + 1, rfl, by omega, (by rw [x1, wrap_succ2 (by omega)]), (all_succ aA0 x2), x3⟩
    have g1 : (t.g_On.map eBool)[d]? = some (eBool (bAt t.g_On d)) := get_map eBool (d := false) (by omega)
    have g2 : (t.g_Sides.map eInt)[d]? = some (eInt (sideOf t d)) := get_map eInt (d := 0) (by omega)
    cases ho : bAt t.g_On d
    · (try ((repeat (revert hN; revert N; apply Pn.out)); refine wk (tw @a18 (tw @ag0 (tw @a1 (tw @a16 (tw @a17 (tw @hd (tw @g1 (tw @ho @eBool.eq_1)))))))) ?_; (repeat (refine Pn.mk ?_; intro N hN))))
      refine nexta ?_ (fun h => by rw [ho] at h; cases h) ?_
      all_goals simp only [go_sem, ↓reduceIte, Nat.reduceEqDiff, Nat.reduceAdd, Nat.reduceSub, Nat.reduceLeDiff, reduceCtorEq, a18, ag0, a1, a16, a17, eTile]
    by_cases h0 : sideOf t d = 0
    · (try ((repeat (revert hN; revert N; apply Pn.out)); refine wk (tw @a18 (tw @ag0 (tw @a1 (tw @a16 (tw @a17 (tw @hd (tw @g1 (tw @g2 (tw @ho (tw @h0 (tw @eBool.eq_1 (tw @eInt.eq_1 @eTile.eq_1)))))))))))) ?_; (repeat (refine Pn.mk ?_; intro N hN))))
      exact ret1Sb (b := false) (.inl rfl) (sd @Nat.zero_add) (sgB_false fun h => h.side d (by omega) ho h0)
    · (try ((repeat (revert hN; revert N; apply Pn.out)); refine wk (tw @a18 (tw @ag0 (tw @a1 (tw @a16 (tw @a17 (tw @hd (tw @g1 (tw @g2 (tw @ho (tw @h0 (tw @eBool.eq_1 (tw @eInt.eq_1 @eTile.eq_1)))))))))))) ?_; (repeat (refine Pn.mk ?_; intro N hN))))
      refine nexta ?_ (fun _ => h0) ?_
      all_goals simp only [go_sem, ↓reduceIte, Nat.reduceEqDiff, Nat.reduceAdd, Nat.reduceSub, Nat.reduceLeDiff, reduceCtorEq, a18, ag0, a1, a16, a17, eTile]
  have hd4 : d = 4 := by omega
  subst hd4
  have hcf := containsFuncFires_v t.g_Fires (by omega) 152 [.iptr (eTile t)] (fireBad t) rfl (fun g => by rw [fzRow_cons, fz_iptr, fzRow_nil]; rfl) (fun f _ => signalsOk1_v t f h4) (fun g => by rw [fzRow_cons, fz_iptr, fzRow_nil]; rfl)
  (repeat (first | ((repeat (revert hN; revert N; apply Pn.out)); refine wk (tw @a18 (tw @ag0 (tw @a1 (tw @a16 (tw @a17 (tw @hd @eTile.eq_1)))))) ?_; (repeat (refine Pn.mk ?_; intro N hN))) | ((try apply Or.inl); refine ⟨_, RetS.x (hcf) (sd (tw @a18 (tw @ag0 (tw @a1 (tw @a16 (tw @a17 (tw @hd @eTile.eq_1))))))), ?_⟩; refine hN _ _ ?_; clear hN N)))
  refine ret1Sb (b := !t.g_Fires.any (fireBad t)) (.inl rfl) (sd @Nat.zero_add) ?_
  cases hb : t.g_Fires.any (fireBad t)
  · refine sgB_true ⟨by omega, by omega, fun j hj => aA0 j (by omega), fun j hj => ?_⟩
    rw [List.any_eq_false] at hb
    have := hb (fireAt t j) (by
      unfold fireAt
      rw [List.getD_eq_getElem?_getD, List.getElem?_eq_getElem hj]
      exact List.getElem_mem hj)
    exact fireBad_ok.1 (by simpa using this)
  · refine sgB_false fun h => ?_
    rw [List.any_eq_true] at hb
    obtain ⟨f, hf, hbf⟩ := hb
    obtain ⟨j, hj, rfl⟩ := List.getElem_of_mem hf
    have := h.fires j hj
    have e2 : t.g_Fires[j] = fireAt t j := by simp [fireAt, List.getD_eq_getElem?_getD, hj]
    rw [e2, fireBad_ok.2 this] at hbf
    cases hbf

set_option maxRecDepth 100000 in
set_option maxHeartbeats 4000000 in
theorem validSignal1_v (t : D_SignalTile) (h4 : t.g_Sides.length = 4) : RetS Tryz.prog 133 [.agg (eTile t)] (.bool (!sgB t)) := by
  refine RetS.body cfE rfl fun hl n0 => ?_
  clear hl
  (repeat (first | ((repeat (revert hN; revert N; apply Pn.out)); refine wk @eTile.eq_1 ?_; (repeat (refine Pn.mk ?_; intro N hN))) | ((try apply Or.inl); refine ⟨_, RetS.x (signalsOk_v t h4) (sd @eTile.eq_1), ?_⟩; refine hN _ _ ?_; clear hN N)))
  exact ret1Sb (.inl rfl) (sd @Nat.zero_add) rfl

set_option maxRecDepth 100000 in
set_option maxHeartbeats 4000000 in
theorem plain_v (s : D_SignalSet) (h : SmallSet s) : Ret Tryz.prog 131 [.agg (eSet s)] (.agg [.sl (s.g_Glues.map eGlue), slN (s.g_Tiles.map eXT)]) := by
  refine Ret.body cfE rfl fun hl σ => ?_
  have hn := h.t
  clear hl
  (repeat (first | ((repeat (revert hN; revert N; apply Pn.out)); refine wk @eSet.eq_1 ?_; (repeat (refine Pn.mk ?_; intro N hN))) | ((try apply Or.inl); refine ⟨_, Ret.x (cloneGlue_v s.g_Glues h.g) _, ?_⟩; refine hN _ _ ?_; clear hN N)))
  refine w_loopF (fun n env st => ∃ k : Nat, n = (s.g_Tiles.length) - k ∧ k ≤ (s.g_Tiles.length) ∧ env 13 = .int .i64 (k : Int) ∧ st.get ⟨131000001, σ.next⟩ = some ⟨true, 2, [[.nils, .nils]]⟩ ∧ ((k = 0 ∧ st.get ⟨131001004, σ.next + 1⟩ = some ⟨true, 2, [[.sl (s.g_Glues.map eGlue), .nils]]⟩) ∨ (∃ v, 0 < k ∧ st.get ⟨131001004, σ.next + 1⟩ = some ⟨true, 2, [[.sl (s.g_Glues.map eGlue), .own ⟨131005009, v⟩ 0 k]]⟩ ∧ st.get ⟨131005009, v⟩ = some ⟨true, 2, (s.g_Tiles.take k).map eXT⟩))) (s.g_Tiles.length) ⟨0, by omega, by omega, by (try simp only [go_sem, ↓reduceIte, Nat.reduceEqDiff, Nat.reduceAdd, Nat.reduceSub, Nat.reduceLeDiff, reduceCtorEq, eSet]); try rfl, by (try simp only [go_sem, ↓reduceIte, Nat.reduceEqDiff, Nat.reduceAdd, Nat.reduceSub, Nat.reduceLeDiff, reduceCtorEq, eSet]); try rfl, .inl ⟨rfl, sd @Nat.zero_add⟩⟩ ?_
  rintro n_a env_a st_a ⟨k, rfl, ale, a13, ag0, aI0⟩ afr
  have a2 := afr 2 (by kernel_rfl); have a3 := afr 3 (by kernel_rfl); have a11 := afr 11 (by kernel_rfl); have a12 := afr 12 (by kernel_rfl)
  simp only [go_sem, ↓reduceIte, Nat.reduceEqDiff, Nat.reduceAdd, Nat.reduceSub, Nat.reduceLeDiff, reduceCtorEq, eSet] at a2 a3 a11 a12
  clear afr
  by_cases hk : (k : Int) < (s.g_Tiles.length : Int)
  · have nexta : ∀ {e : Env} {gg : Rows}, (e 13 = .int .i64 (IntKind.i64.wrap ((k : Int) + 1))) → (gg ⟨131000001, σ.next⟩ = some ⟨true, 2, [[.nils, .nils]]⟩) → (((k + 1) = 0 ∧ gg ⟨131001004, σ.next + 1⟩ = some ⟨true, 2, [[.sl (s.g_Glues.map eGlue), .nils]]⟩) ∨ (∃ v, 0 < (k + 1) ∧ gg ⟨131001004, σ.next + 1⟩ = some ⟨true, 2, [[.sl (s.g_Glues.map eGlue), .own ⟨131005009, v⟩ 0 (k + 1)]]⟩ ∧ gg ⟨131005009, v⟩ = some ⟨true, 2, (s.g_Tiles.take (k + 1)).map eXT⟩)) → ∃ m0, m0 < (s.g_Tiles.length) - k ∧ ∃ k : Nat, m0 = (s.g_Tiles.length) - k ∧ k ≤ (s.g_Tiles.length) ∧ e 13 = .int .i64 (k : Int) ∧ gg ⟨131000001, σ.next⟩ = some ⟨true, 2, [[.nils, .nils]]⟩ ∧ ((k = 0 ∧ gg ⟨131001004, σ.next + 1⟩ = some ⟨true, 2, [[.sl (s.g_Glues.map eGlue), .nils]]⟩) ∨ (∃ v, 0 < k ∧ gg ⟨131001004, σ.next + 1⟩ = some ⟨true, 2, [[.sl (s.g_Glues.map eGlue), .own ⟨131005009, v⟩ 0 k]]⟩ ∧ gg ⟨131005009, v⟩ = some ⟨true, 2, (s.g_Tiles.take k).map eXT⟩)) := fun x1 x2 x3 => ⟨_, by omega, k + 1, rfl, by omega, (by rw [x1, wrap_succ2 (by omega)]), x2, x3⟩
    have hkn : k < s.g_Tiles.length := by omega
    have hgk : (s.g_Tiles.map eTile)[k]? = some (eTile (tN s k)) := get_map eTile hkn
    have hb := h.s _ (tN_mem hkn)
    have ht := take_map eXT (d := noTile) hkn
    rw [show s.g_Tiles.getD k noTile = tN s k from rfl, eXT] at ht
    have hm1 : k + 1 ≤ 16777216 := by omega
    rcases aI0 with ⟨rfl, g1⟩ | ⟨v, h0, g1, g2⟩
    · simp only [List.take_zero, List.map_nil, List.nil_append, Nat.zero_add] at ht
      (repeat (first | ((repeat (revert hN; revert N; apply Pn.out)); refine wk (tw @a13 (tw @ag0 (tw @a2 (tw @a3 (tw @a11 (tw @a12 (tw @g1 (tw @hk (tw @hgk @eTile.eq_1))))))))) ?_; (repeat (refine Pn.mk ?_; intro N hN))) | ((try apply Or.inl); refine ⟨_, Ret.x (cloneInt_v (tN s 0).g_Sides hb) _, ?_⟩; refine hN _ _ ?_; clear hN N)))
      refine nexta ?_ ?_ (.inr ⟨st_a.next + 1 + 1, by omega, sd @Nat.zero_add, sd @ht⟩)
      all_goals simp only [go_sem, ↓reduceIte, Nat.reduceEqDiff, Nat.reduceAdd, Nat.reduceSub, Nat.reduceLeDiff, reduceCtorEq, a13, ag0, a2, a3, a11, a12]
    · have hlen : (s.g_Tiles.take k).length = k := by simp; omega
      (repeat (first | ((repeat (revert hN; revert N; apply Pn.out)); refine wk (tw @a13 (tw @ag0 (tw @a2 (tw @a3 (tw @a11 (tw @a12 (tw @g1 (tw @g2 (tw @hk (tw @hgk (tw @hm1 (tw @hlen @eTile.eq_1)))))))))))) ?_; (repeat (refine Pn.mk ?_; intro N hN))) | ((try apply Or.inl); refine ⟨_, Ret.x (cloneInt_v (tN s k).g_Sides hb) _, ?_⟩; refine hN _ _ ?_; clear hN N)))
      refine nexta ?_ ?_ (.inr ⟨st_a.next + 1 + 1, by omega, sd @Nat.zero_add, sd @ht⟩)
      all_goals simp only [go_sem, ↓reduceIte, Nat.reduceEqDiff, Nat.reduceAdd, Nat.reduceSub, Nat.reduceLeDiff, reduceCtorEq, a13, ag0, a2, a3, a11, a12]
  · have hkn : k = s.g_Tiles.length := by omega
    subst hkn
    have f2 : ∀ (g : Rows) (x : D_SignalTile), fzRow g 4 (eXT x) = some (eXT x) := fun g x => by simp [eXT, fzRow_cons, fzRow_nil, fz_str, fz_sl]
    rcases aI0 with ⟨h0, g1⟩ | ⟨v, h0, g1, g2⟩
    · have hn0 : s.g_Tiles = [] := List.eq_nil_of_length_eq_zero h0
      (try ((repeat (revert hN; revert N; apply Pn.out)); refine wk (tw @a13 (tw @ag0 (tw @a2 (tw @a3 (tw @a11 (tw @a12 (tw @g1 @hk))))))) ?_; (repeat (refine Pn.mk ?_; intro N hN))))
      refine retG (vs := [.agg [.sl (s.g_Glues.map eGlue), .nils]]) (.inl rfl) (by simp only [vresL, vres1, go_sem, ↓reduceIte, Nat.reduceEqDiff, Nat.reduceAdd, Nat.reduceSub, Nat.reduceLeDiff, reduceCtorEq, a13, ag0, a2, a3, a11, a12]) ?_
      rw [tupOf, fz_agg, fzRow_cons, fz_sl, fzRow_cons, fz_nils, fzRow_nil, hn0]
      simp [slN]
    · rw [List.take_length] at g2
      (try ((repeat (revert hN; revert N; apply Pn.out)); refine wk (tw @a13 (tw @ag0 (tw @a2 (tw @a3 (tw @a11 (tw @a12 (tw @g1 (tw @g2 @hk)))))))) ?_; (repeat (refine Pn.mk ?_; intro N hN))))
      refine retG (vs := [.agg [.sl (s.g_Glues.map eGlue), .own ⟨131005009, v⟩ 0 s.g_Tiles.length]]) (.inl rfl) (by simp only [vresL, vres1, go_sem, ↓reduceIte, Nat.reduceEqDiff, Nat.reduceAdd, Nat.reduceSub, Nat.reduceLeDiff, reduceCtorEq, a13, ag0, a2, a3, a11, a12]) ?_
      rw [tupOf, fz_agg, fzRow_cons, fz_sl, fzRow_cons, fz_own_map (e := eXT) (l := s.g_Tiles) (sz := 2) (sd (tw @a13 (tw @ag0 (tw @a2 (tw @a3 (tw @a11 (tw @a12 @g2))))))) rfl (f2 _), fzRow_nil]
      have hne : ¬ (s.g_Tiles.map eXT = []) := fun hc => by simp at hc; rw [hc] at h0; simp at h0
      rw [slN, if_neg hne]
      rfl

set_option maxRecDepth 100000 in
set_option maxHeartbeats 4000000 in
theorem validSignalSet_v (s : D_SignalSet) (hs : SmallSet s) (hn : SmallNames s) : RetS Tryz.prog 106 [.agg (eSet s)] (.bool (sigB s)) := by
  refine RetS.body cfE rfl fun hl n0 => ?_
  clear hl
  have hpl := plain_v s hs
  have hvs := validSet_v s.g_Glues (xtiles s) (fun g hg => by have := hn.g g hg; omega) (fun t ht => by
      obtain ⟨x, hx, rfl⟩ := List.mem_map.1 ht
      have := hn.t x hx
      show x.g_Name.size ≤ _
      omega)
  rw [xtiles_e] at hvs
  rw [eSet] at hpl
  cases hb : setB s.g_Glues (xtiles s)
  · (repeat (first | ((repeat (revert hN; revert N; apply Pn.out)); refine wk (tw @eSet.eq_1 @hb) ?_; (repeat (refine Pn.mk ?_; intro N hN))) | ((try apply Or.inl); refine ⟨_, Ret.x (hpl) _, ?_⟩; refine hN _ _ ?_; clear hN N) | ((try apply Or.inl); refine ⟨_, Ret.x (hvs) _, ?_⟩; refine hN _ _ ?_; clear hN N)))
    exact ret1Sb (b := false) (.inl rfl) (sd @Nat.zero_add) (sigB_false fun h => by rw [← setB_true h.set] at hb; cases hb)
  have hset := setB_iff.1 hb
  have hct := containsFuncTiles_v s.g_Tiles hs.t 133 [] (fun t => !sgB t) rfl (fun g => by rw [fzRow_nil]) (fun t ht => validSignal1_v t (by
      obtain ⟨i, hi, rfl⟩ := List.getElem_of_mem ht
      have e : s.g_Tiles[i] = tN s i := by simp [tN, List.getD_eq_getElem?_getD, hi]
      rw [e]; exact setok_four hset hi)) (fun g => by rw [fzRow_nil])
  (repeat (first | ((repeat (revert hN; revert N; apply Pn.out)); refine wk (tw @eSet.eq_1 @hb) ?_; (repeat (refine Pn.mk ?_; intro N hN))) | ((try apply Or.inl); refine ⟨_, Ret.x (hpl) _, ?_⟩; refine hN _ _ ?_; clear hN N) | ((try apply Or.inl); refine ⟨_, Ret.x (hvs) _, ?_⟩; refine hN _ _ ?_; clear hN N) | ((try apply Or.inl); refine ⟨_, RetS.x (hct) (sd (tw @eSet.eq_1 @hb)), ?_⟩; refine hN _ _ ?_; clear hN N)))
  exact ret1Sb (b := !(s.g_Tiles.any fun t => !sgB t)) (.inl rfl) (sd @Nat.zero_add) (sigB_eq hb).symm


set_option maxRecDepth 100000 in
set_option maxHeartbeats 4000000 in
theorem validCells1_v (s : D_SignalSet) (temp : Int) (cells : List D_SignalCell) (c : D_SignalCell) (b : Bool) (h : RetS Tryz.prog 111 [.agg (eWorld s temp cells), .agg (eCell c)] (.bool b)) :
    RetS Tryz.prog 110 [.agg (eCell c), .iptr (eWorld s temp cells)] (.bool (!b)) := by
  refine RetS.body cfE rfl fun hl n0 => ?_
  clear hl
  (repeat (first | ((repeat (revert hN; revert N; apply Pn.out)); refine wk (tw @eCell.eq_1 @eWorld.eq_1) ?_; (repeat (refine Pn.mk ?_; intro N hN))) | ((try apply Or.inl); refine ⟨_, RetS.x (h) (sd (tw @eCell.eq_1 @eWorld.eq_1)), ?_⟩; refine hN _ _ ?_; clear hN N)))
  exact ret1Sb (.inl rfl) (sd @Nat.zero_add) rfl

theorem iCmp_sub {k : Nat} (h : 0 < k) (hk : k ≤ 1048576) : IntKind.i64.wrap ((k : Int) - 1) = ((k - 1 : Nat) : Int) := by rw [wrap_id (by omega)]; omega

set_option maxRecDepth 100000 in
set_option maxHeartbeats 4000000 in
theorem validCells_v (s : D_SignalSet) (cells : List D_SignalCell) (hs : SmallSet s) (hn : SmallNames s) : RetS Tryz.prog 71 [.agg (eSet s), .sl (cells.map eCell)] (.bool (cellsB s cells)) := by
  refine RetS.body cfE rfl fun hl n0 => ?_
  clear hl
  have hvs := validSignalSet_v s hs hn
  have hnt := hs.t
  unfold cellsB
  cases hb : sigB s
  · (repeat (first | ((repeat (revert hN; revert N; apply Pn.out)); refine wk (tw @eSet.eq_1 @hb) ?_; (repeat (refine Pn.mk ?_; intro N hN))) | ((try apply Or.inl); refine ⟨_, RetS.x (hvs) (sd (tw @eSet.eq_1 @hb)), ?_⟩; refine hN _ _ ?_; clear hN N)))
    exact ret1Sb (b := false) (.inl rfl) (sd @Nat.zero_add) (by simp)
  have hok := sigB_iff.1 hb
  by_cases h80 : (80 : Int) < cells.length
  · (repeat (first | ((repeat (revert hN; revert N; apply Pn.out)); refine wk (tw @eSet.eq_1 (tw @hb @h80)) ?_; (repeat (refine Pn.mk ?_; intro N hN))) | ((try apply Or.inl); refine ⟨_, RetS.x (hvs) (sd (tw @eSet.eq_1 (tw @hb @h80))), ?_⟩; refine hN _ _ ?_; clear hN N)))
    exact ret1Sb (b := false) (.inl rfl) (sd @Nat.zero_add) (by simp [show ¬ cells.length ≤ 80 by omega])
  have h80' : cells.length ≤ 80 := by omega
  (repeat (first | ((repeat (revert hN; revert N; apply Pn.out)); refine wk (tw @eSet.eq_1 (tw @hb @h80)) ?_; (repeat (refine Pn.mk ?_; intro N hN))) | ((try apply Or.inl); refine ⟨_, RetS.x (hvs) (sd (tw @eSet.eq_1 (tw @hb @h80))), ?_⟩; refine hN _ _ ?_; clear hN N)))
  refine w_loopF (fun n env st => ∃ k : Nat, n = (cells.length) - k ∧ k ≤ (cells.length) ∧ env 21 = .int .i64 (k : Int) ∧ (∀ j : Nat, j < k → linB s cells j = true) ∧ st.get ⟨71003003, n0 + 1 + 1⟩ = some ⟨true, 4, [eWorld s 0 cells]⟩) (cells.length) ⟨0, by omega, by omega, by (try simp only [go_sem, ↓reduceIte, Nat.reduceEqDiff, Nat.reduceAdd, Nat.reduceSub, Nat.reduceLeDiff, reduceCtorEq, eSet, eWorld]); try rfl, fun _ h => absurd h (Nat.not_lt_zero _), by (try simp only [go_sem, ↓reduceIte, Nat.reduceEqDiff, Nat.reduceAdd, Nat.reduceSub, Nat.reduceLeDiff, reduceCtorEq, eSet, eWorld]); try rfl⟩ ?_
  rintro n_a env_a st_a ⟨k, rfl, ale, a21, aA0, ag0⟩ afr
  have a1 := afr 1 (by kernel_rfl); have a5 := afr 5 (by kernel_rfl); have a19 := afr 19 (by kernel_rfl); have a20 := afr 20 (by kernel_rfl)
  simp only [go_sem, ↓reduceIte, Nat.reduceEqDiff, Nat.reduceAdd, Nat.reduceSub, Nat.reduceLeDiff, reduceCtorEq, eSet, eWorld] at a1 a5 a19 a20
  clear afr
  by_cases hk : (k : Int) < (cells.length : Int)
  · have nexta : ∀ {e : Env} {gg : Rows}, (e 21 = .int .i64 (IntKind.i64.wrap ((k : Int) + 1))) → (linB s cells k = true) → (gg ⟨71003003, n0 + 1 + 1⟩ = some ⟨true, 4, [eWorld s 0 cells]⟩) → ∃ m0, m0 < (cells.length) - k ∧ ∃ k : Nat, m0 = (cells.length) - k ∧ k ≤ (cells.length) ∧ e 21 = .int .i64 (k : Int) ∧ (∀ j : Nat, j < k → linB s cells j = true) ∧ gg ⟨71003003, n0 + 1 + 1⟩ = some ⟨true, 4, [eWorld s 0 cells]⟩ := fun x1 x2 x3 => ⟨_, by omega, k + 1, rfl, by omega, (by rw [x1, wrap_succ2 (by omega)]), (all_succ aA0 x2), x3⟩
    have hkn : k < cells.length := by omega
    have hg : (cells.map eCell)[k]? = some (eCell (cellAt cells k)) := get_map eCell hkn
    have hfo := formOk_v s 0 cells (cellAt cells k) hnt
    cases hf : formB s (cellAt cells k)
    · (repeat (first | ((repeat (revert hN; revert N; apply Pn.out)); refine wk (tw @a21 (tw @ag0 (tw @a1 (tw @a5 (tw @a19 (tw @a20 (tw @hk (tw @hg (tw @hf (tw @eWorld.eq_1 @eCell.eq_1)))))))))) ?_; (repeat (refine Pn.mk ?_; intro N hN))) | ((try apply Or.inl); refine ⟨_, RetS.x (hfo) (sd (tw @a21 (tw @ag0 (tw @a1 (tw @a5 (tw @a19 (tw @a20 (tw @hk (tw @hg (tw @hf (tw @eWorld.eq_1 @eCell.eq_1))))))))))), ?_⟩; refine hN _ _ ?_; clear hN N)))
      exact ret1Sb (b := false) (.inl rfl) (sd @Nat.zero_add) (by rw [okL_lin hkn (by simp [linB, hf])]; simp)
    by_cases h0 : (0 : Int) < k
    case neg =>
      (repeat (first | ((repeat (revert hN; revert N; apply Pn.out)); refine wk (tw @a21 (tw @ag0 (tw @a1 (tw @a5 (tw @a19 (tw @a20 (tw @hk (tw @hg (tw @hf (tw @h0 (tw @eWorld.eq_1 @eCell.eq_1))))))))))) ?_; (repeat (refine Pn.mk ?_; intro N hN))) | ((try apply Or.inl); refine ⟨_, RetS.x (hfo) (sd (tw @a21 (tw @ag0 (tw @a1 (tw @a5 (tw @a19 (tw @a20 (tw @hk (tw @hg (tw @hf (tw @h0 (tw @eWorld.eq_1 @eCell.eq_1)))))))))))), ?_⟩; refine hN _ _ ?_; clear hN N)))
      refine nexta ?_ (by simp only [linB, hf, Bool.true_and, Bool.or_eq_true, decide_eq_true_eq]; omega) ?_
      all_goals simp only [go_sem, ↓reduceIte, Nat.reduceEqDiff, Nat.reduceAdd, Nat.reduceSub, Nat.reduceLeDiff, reduceCtorEq, a21, ag0, a1, a5, a19, a20, eWorld]
    have e1 := iCmp_sub (k := k) (by omega) (by omega)
    have hg1 : (cells.map eCell)[k - 1]? = some (eCell (cellAt cells (k - 1))) := get_map eCell (by omega)
    have hle := iLess_v (cellAt cells (k - 1)).g_At (cellAt cells k).g_At
    cases hl : ltB (cellAt cells (k - 1)).g_At (cellAt cells k).g_At
    · (repeat (first | ((repeat (revert hN; revert N; apply Pn.out)); refine wk (tw @a21 (tw @ag0 (tw @a1 (tw @a5 (tw @a19 (tw @a20 (tw @hk (tw @hg (tw @hg1 (tw @hf (tw @h0 (tw @e1 (tw @hl (tw @eWorld.eq_1 (tw @eCell.eq_1 @ePoint.eq_1))))))))))))))) ?_; (repeat (refine Pn.mk ?_; intro N hN))) | ((try apply Or.inl); refine ⟨_, RetS.x (hfo) (sd (tw @a21 (tw @ag0 (tw @a1 (tw @a5 (tw @a19 (tw @a20 (tw @hk (tw @hg (tw @hg1 (tw @hf (tw @h0 (tw @e1 (tw @hl (tw @eWorld.eq_1 (tw @eCell.eq_1 @ePoint.eq_1)))))))))))))))), ?_⟩; refine hN _ _ ?_; clear hN N) | ((try apply Or.inl); refine ⟨_, Ret.x (hle) _, ?_⟩; refine hN _ _ ?_; clear hN N)))
      exact ret1Sb (b := false) (.inl rfl) (sd @Nat.zero_add) (by rw [okL_lin hkn (by simp [linB, hl]; omega)]; simp)
    · (repeat (first | ((repeat (revert hN; revert N; apply Pn.out)); refine wk (tw @a21 (tw @ag0 (tw @a1 (tw @a5 (tw @a19 (tw @a20 (tw @hk (tw @hg (tw @hg1 (tw @hf (tw @h0 (tw @e1 (tw @hl (tw @eWorld.eq_1 (tw @eCell.eq_1 @ePoint.eq_1))))))))))))))) ?_; (repeat (refine Pn.mk ?_; intro N hN))) | ((try apply Or.inl); refine ⟨_, RetS.x (hfo) (sd (tw @a21 (tw @ag0 (tw @a1 (tw @a5 (tw @a19 (tw @a20 (tw @hk (tw @hg (tw @hg1 (tw @hf (tw @h0 (tw @e1 (tw @hl (tw @eWorld.eq_1 (tw @eCell.eq_1 @ePoint.eq_1)))))))))))))))), ?_⟩; refine hN _ _ ?_; clear hN N) | ((try apply Or.inl); refine ⟨_, Ret.x (hle) _, ?_⟩; refine hN _ _ ?_; clear hN N)))
      refine nexta ?_ (by simp [linB, hf, hl]) ?_
      all_goals simp only [go_sem, ↓reduceIte, Nat.reduceEqDiff, Nat.reduceAdd, Nat.reduceSub, Nat.reduceLeDiff, reduceCtorEq, a21, ag0, a1, a5, a19, a20, eWorld]
  have hkf : k = cells.length := by omega
  subst hkf
  have hF : ∀ c ∈ cells, FormOk s c := fun c hc => by
    obtain ⟨j, hj, rfl⟩ := List.getElem_of_mem hc
    have := aA0 j hj
    simp only [linB, Bool.and_eq_true, cellAt_eq hj] at this
    exact form_ok this.1
  have hR : RisC cells := fun i j hij hj => lin_ris (fun j hj h0 => by
    have := aA0 j hj
    simp only [linB, Bool.and_eq_true, Bool.or_eq_true, decide_eq_true_eq] at this
    rcases this.2 with h | h
    · omega
    · exact h) j i hij hj
  have h6 : ∀ c ∈ cells, (tileAt s c.g_Tile).g_Fires.length ≤ 1048576 := fun c hc => by
    have f := hF c hc
    have h0 := f.t0
    have h1 := f.t1
    have := (hok.tiles c.g_Tile.toNat (by omega)).few
    rw [tileAt_N]; omega
  have hct := containsFuncCells_v cells (by omega) 110 [.iptr (eWorld s 0 cells)] (fun c => !cellB s cells c) rfl (fun g => by rw [fzRow_cons, fz_iptr, fzRow_nil]; rfl) (fun c hc => validCells1_v s 0 cells c _ (cellOk_v s 0 cells c hok.form hok.ssides hF (hF c hc) hR (by omega) (h6 c hc))) (fun g => by rw [fzRow_cons, fz_iptr, fzRow_nil]; rfl)
  (repeat (first | ((repeat (revert hN; revert N; apply Pn.out)); refine wk (tw @a21 (tw @ag0 (tw @a1 (tw @a5 (tw @a19 (tw @a20 (tw @hk @eWorld.eq_1))))))) ?_; (repeat (refine Pn.mk ?_; intro N hN))) | ((try apply Or.inl); refine ⟨_, RetS.x (hct) (sd (tw @a21 (tw @ag0 (tw @a1 (tw @a5 (tw @a19 (tw @a20 (tw @hk @eWorld.eq_1)))))))), ?_⟩; refine hN _ _ ?_; clear hN N)))
  refine ret1Sb (b := !cells.any fun c => !cellB s cells c) (.inl rfl) (sd @Nat.zero_add) ?_
  simp only [Bool.true_and, h80', decide_true]
  cases hb2 : cells.any fun c => !cellB s cells c
  · rw [okL_true (fun j hj => aA0 j hj) fun j hj => ?_]
    · rfl
    rw [List.any_eq_false] at hb2
    have := hb2 (cellAt cells j) (by rw [cellAt_eq hj]; exact List.getElem_mem _)
    simpa using this
  · rw [List.any_eq_true] at hb2
    obtain ⟨c, hc, hcb⟩ := hb2
    obtain ⟨j, hj, rfl⟩ := List.getElem_of_mem hc
    rw [okL_cell (j := j) hj (by rw [cellAt_eq hj]; simpa using hcb)]
    rfl

set_option maxRecDepth 100000 in
set_option maxHeartbeats 4000000 in
theorem signalCode_v (s : D_SignalSet) (temp : Int) (cells : List D_SignalCell) (hs : SmallSet s) (hn : SmallNames s) : RetS Tryz.prog 36 [.agg (eSet s), .int .i64 temp, .sl (cells.map eCell)] (.int .i64 (askN s temp cells)) := by
  refine RetS.body cfE rfl fun hl n0 => ?_
  clear hl
  have hvc := validCells_v s cells hs hn
  unfold askN
  cases hb : cellsB s cells
  · (repeat (first | ((repeat (revert hN; revert N; apply Pn.out)); refine wk (tw @eSet.eq_1 @hb) ?_; (repeat (refine Pn.mk ?_; intro N hN))) | ((try apply Or.inl); refine ⟨_, RetS.x (hvc) (sd (tw @eSet.eq_1 @hb)), ?_⟩; refine hN _ _ ?_; clear hN N)))
    exact ret1Si (b := 1) (.inl rfl) (sd @Nat.zero_add) (by simp)
  cases ht : inB temp 1 16
  · (repeat (first | ((repeat (revert hN; revert N; apply Pn.out)); refine wk (tw @eSet.eq_1 (tw @hb @ht)) ?_; (repeat (refine Pn.mk ?_; intro N hN))) | ((try apply Or.inl); refine ⟨_, RetS.x (hvc) (sd (tw @eSet.eq_1 (tw @hb @ht))), ?_⟩; refine hN _ _ ?_; clear hN N) | ((try apply Or.inl); refine ⟨_, Ret.x (isTemp_v temp) _, ?_⟩; refine hN _ _ ?_; clear hN N)))
    exact ret1Si (b := 2) (.inl rfl) (sd @Nat.zero_add) (by simp)
  · (repeat (first | ((repeat (revert hN; revert N; apply Pn.out)); refine wk (tw @eSet.eq_1 (tw @hb @ht)) ?_; (repeat (refine Pn.mk ?_; intro N hN))) | ((try apply Or.inl); refine ⟨_, RetS.x (hvc) (sd (tw @eSet.eq_1 (tw @hb @ht))), ?_⟩; refine hN _ _ ?_; clear hN N) | ((try apply Or.inl); refine ⟨_, Ret.x (isTemp_v temp) _, ?_⟩; refine hN _ _ ?_; clear hN N)))
    exact ret1Si (b := 0) (.inl rfl) (sd @Nat.zero_add) (by simp)


set_option maxRecDepth 100000 in
set_option maxHeartbeats 4000000 in
theorem validSchedule1_v (n : Int) : RetS Tryz.prog 97 [.int .i64 n] (.bool (!inB n 0 1000)) := by
  refine RetS.body cfE rfl fun hl n0 => ?_
  clear hl
  (repeat (first | ((repeat (revert hN; revert N; apply Pn.out)); refine wk @Nat.zero_add ?_; (repeat (refine Pn.mk ?_; intro N hN))) | ((try apply Or.inl); refine ⟨_, Ret.x (within_v n 0 1000) _, ?_⟩; refine hN _ _ ?_; clear hN N)))
  exact ret1Sb (.inl rfl) (sd @Nat.zero_add) rfl

set_option maxRecDepth 100000 in
set_option maxHeartbeats 4000000 in
theorem validSchedule_v (sch : List Int) : RetS Tryz.prog 55 [.sl (sch.map eInt)] (.bool (schB sch)) := by
  refine RetS.body cfE rfl fun hl n0 => ?_
  clear hl
  by_cases h2 : (sch.length : Int) ≤ 200
  · have hc := containsFunc_g elt_int (show cFn Tryz.prog 96 = some (hasFnC 96 126) by kernel_rfl) (show cFn Tryz.prog 126 = some (idxFnC 126 1 false) by kernel_rfl) sch (by omega) 97 [] (fun n => !inB n 0 1000) rfl (fun g => by rw [fzRow_nil]) (fun x _ => validSchedule1_v x) (fun g => by rw [fzRow_nil])
    (repeat (first | ((repeat (revert hN; revert N; apply Pn.out)); refine wk @h2 ?_; (repeat (refine Pn.mk ?_; intro N hN))) | ((try apply Or.inl); refine ⟨_, RetS.x (hc) (sd @h2), ?_⟩; refine hN _ _ ?_; clear hN N)))
    refine ret1Sb (.inl rfl) (by simp only [go_sem, ↓reduceIte, Nat.reduceEqDiff, Nat.reduceAdd, Nat.reduceSub, Nat.reduceLeDiff, reduceCtorEq]; rfl) ?_
    have h3 : sch.length ≤ 200 := by omega
    rw [schB, decide_eq_true h3, Bool.true_and]
    rw [← List.not_all_eq_any_not]; simp
  · (try ((repeat (revert hN; revert N; apply Pn.out)); refine wk @h2 ?_; (repeat (refine Pn.mk ?_; intro N hN))))
    exact ret1Sb (.inl rfl) (by simp only [go_sem, ↓reduceIte, Nat.reduceEqDiff, Nat.reduceAdd, Nat.reduceSub, Nat.reduceLeDiff, reduceCtorEq]; rfl) (by rw [Bool.eq_iff_iff, schB_iff]; simp; omega)

set_option maxRecDepth 100000 in
set_option maxHeartbeats 4000000 in
theorem selection_v (sch : List Int) : Ret Tryz.prog 58 [.sl (sch.map eInt)] (.fn 99 [.iptr [.sl (sch.map eInt)]]) := by
  refine Ret.body cfE rfl fun hl σ => ?_
  clear hl
  (try ((repeat (revert hN; revert N; apply Pn.out)); refine wk @Nat.zero_add ?_; (repeat (refine Pn.mk ?_; intro N hN))))
  exact ret1 (.inl rfl) (r0 := .fn 99 [.ptr ⟨58000000, σ.next⟩ 0 0]) (sd @Nat.zero_add) (sd @Nat.zero_add)

set_option maxRecDepth 100000 in
set_option maxHeartbeats 4000000 in
theorem selection1_v (sch : List Int) (h : schB sch = true) (len n : Nat) (hp : 0 < len) : RetS Tryz.prog 99 [.int .i64 len, .int .i64 n, .iptr [.sl (sch.map eInt)]] (.int .i64 (selN sch n len)) := by
  refine RetS.body cfE rfl fun hl n0 => ?_
  clear hl
  by_cases h0 : sch.length = 0
  · have h1 : (sch.length : Int) = 0 := by omega
    (try ((repeat (revert hN; revert N; apply Pn.out)); refine wk @h1 ?_; (repeat (refine Pn.mk ?_; intro N hN))))
    exact ret1Si (.inl rfl) (by simp only [go_sem, ↓reduceIte, Nat.reduceEqDiff, Nat.reduceAdd, Nat.reduceSub, Nat.reduceLeDiff, reduceCtorEq]; rfl) (by rw [selN, if_pos h0]; rfl)
  · have h1 : ¬ (sch.length : Int) = 0 := by omega
    have h2 : ¬ (len : Int) = 0 := by omega
    obtain ⟨k1, k2, k3⟩ := sch_ok h (by omega) n
    have h3 : (n : Int).tmod (sch.length : Int) = ((n % sch.length : Nat) : Int) := by rw [Int.tmod_eq_emod_of_nonneg (by omega)]; rfl
    have h4 : (sch.map eInt)[n % sch.length]? = some [.int .i64 (schAt sch n)] := by
      rw [List.getElem?_map, schAt, List.getD_eq_getElem?_getD, List.getElem?_eq_getElem k1]; rfl
    have h5 : (schAt sch n).tmod (len : Int) = ((selN sch n len : Nat) : Int) := by
      rw [selN, if_neg h0, Int.tmod_eq_emod_of_nonneg k2, Int.toNat_of_nonneg (Int.emod_nonneg _ (by omega))]
    (try ((repeat (revert hN; revert N; apply Pn.out)); refine wk (tw @h1 (tw @h2 (tw @h3 (tw @h4 @h5)))) ?_; (repeat (refine Pn.mk ?_; intro N hN))))
    exact ret1Si (.inl rfl) (sd @Nat.zero_add) rfl

end Go.Proofs.YtpbniieiinhliaaGreat.V
