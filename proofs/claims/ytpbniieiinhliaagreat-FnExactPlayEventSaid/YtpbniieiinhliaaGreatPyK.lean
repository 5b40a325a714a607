/- The reference puts a point to its place. -/
import Derived.Test.YtpbniieiinhliaaGreatPyC
import Derived.Test.YtpbniieiinhliaaGreatPyH
import Derived.Test.YtpbniieiinhliaaGreatPyJ
import Derived.Test.YtpbniieiinhliaaGreatPyI
set_option linter.unusedVariables false
set_option linter.unusedSimpArgs false
namespace Go.Proofs.YtpbniieiinhliaaGreat.V
open Go.RowKit
attribute [local irreducible] wpv wpOps PCx Call
attribute [local go_sem] wantedV vop qop eop vis evO upd envOf K.av boxOf AV.cells AV.cell rowOf rowsOf part ld rowAt setR killR ibin vbin vsh vclear vsbin sbin eq1 eqL xorB vnil vnilS vnilF hiOf loOf vslice vsliceS viaddr vidxS vidxA vlen vnot vneg vconv vconvS vpick vchk vfield vextract vlenS fillV vmk rowsIn putCs vstore vappend seqQ blockQ most AV.undef callW locP locQ List.getD_cons_zero List.getD_cons_succ List.getD_nil List.all_cons List.all_nil Bool.and_true Bool.true_and Bool.and_self Bool.not_true Bool.not_false Option.map_some Option.map_none Option.bind_some Option.bind_none List.length_cons List.length_nil List.take_succ_cons List.take_zero List.take_nil List.drop_succ_cons List.drop_zero List.drop_nil List.head?_cons List.map_cons List.map_nil List.getElem?_cons_zero List.getElem?_cons_succ List.cons_append List.nil_append List.append_nil List.length_map List.set_cons_zero List.set_cons_succ Nat.reduceMul eq_self Int.toNat_natCast Int.natCast_nonneg and_self true_and and_true decide_true decide_false Bool.false_eq_true Nat.zero_add Nat.add_zero List.contains_cons List.contains_nil Bool.or_false Bool.false_or beq_self_eq_true Nat.reduceBEq ne_eq not_true_eq_false not_false_eq_true Id.mk.injEq false_and and_false Nat.reduceLT Int.reduceLE Int.reduceLT Int.reduceToNat Int.reduceNeg Int.reduceAdd Nat.le_refl List.length_append beq_true beq_false Bool.not_eq_eq_eq_not or_false false_or rw_ fzRow_cons fzRow_nil fz_int fz_bool fz_str fz_sl fz_nils fz_agg fz_iptr fz_ptrE fz_fn

def pAt (ps : List D_Point) (i : Nat) : D_Point := ps.getD i ⟨0, 0⟩
theorem pAt_eq {ps : List D_Point} {i : Nat} (h : i < ps.length) : pAt ps i = ps[i] := by simp [pAt, List.getD_eq_getElem?_getD, h]
theorem pAt_get {ps : List D_Point} {i : Nat} (h : i < ps.length) : (ps.map ePoint)[i]? = some (ePoint (pAt ps i)) := get_map ePoint h
/-- While the elements behind place i move on: place i is free. -/
def shift (ps : List D_Point) (p : D_Point) (i : Nat) : List D_Point := if i < ps.length then ps.take (i + 1) ++ ps.drop i else ps ++ [p]
theorem set_map {α β : Type} (e : α → β) (l : List α) (i : Nat) (x : α) : (l.map e).set i (e x) = (l.set i x).map e := by rw [List.map_set]


def noEv : D_SignalEvent := ⟨0, ⟨0, 0⟩, 0⟩
def eA (l : List D_SignalEvent) (k : Nat) : D_SignalEvent := l.getD k noEv
/-- A cell's events, possible or not: the first m fires. -/
def allK (c : D_SignalCell) (m : Nat) : List D_SignalEvent := [⟨2, c.g_At, 0⟩, ⟨2, c.g_At, 1⟩] ++ (List.range m).map fun (k : Nat) => ⟨3, c.g_At, k⟩
theorem allK_len (c : D_SignalCell) (m : Nat) : (allK c m).length = 2 + m := by simp [allK]; omega
def canB (s : D_SignalSet) (cells : List D_SignalCell) (c : D_SignalCell) (e : D_SignalEvent) : Bool := if e.g_Kind = 2 then bindB s cells c e.g_Num else fireB s c e.g_Num.toNat
def cellEvs (s : D_SignalSet) (cells : List D_SignalCell) (c : D_SignalCell) : List D_SignalEvent := (allK c c.g_Fired.length).filter (canB s cells c)
def attB (s : D_SignalSet) (temp : Int) (cells : List D_SignalCell) (p : D_Point) (k : Nat) : Bool := decide (temp ≤ strN s cells p (tileAt s k) 4)
/-- Attachments at a place: of the first m tiles. -/
def attN (s : D_SignalSet) (temp : Int) (cells : List D_SignalCell) (p : D_Point) (m : Nat) : List D_SignalEvent := ((List.range m).filter (attB s temp cells p)).map fun (k : Nat) => ⟨1, p, k⟩
def evsN (s : D_SignalSet) (cells : List D_SignalCell) (i : Nat) : List D_SignalEvent := (cells.take i).flatMap (cellEvs s cells)
def attsN (s : D_SignalSet) (temp : Int) (cells : List D_SignalCell) (ps : List D_Point) (q : Nat) : List D_SignalEvent := (ps.take q).flatMap fun p => attN s temp cells p s.g_Tiles.length
def eventsL (s : D_SignalSet) (temp : Int) (cells : List D_SignalCell) (ps : List D_Point) : List D_SignalEvent := evsN s cells cells.length ++ attsN s temp cells ps ps.length
def goodP (cells : List D_SignalCell) (x : D_Point) : Prop := ptB x = true ∧ ¬ idxN cells x < cells.length
/-- Free and valid, next to one of the first i cells, or in one of the first m directions from the next one. -/
def nearN (cells : List D_SignalCell) (i m : Nat) (x : D_Point) : Prop := goodP cells x ∧ ((∃ j d : Nat, j < i ∧ d < 4 ∧ stepP (cellAt cells j).g_At d = x) ∨ (∃ d : Nat, d < m ∧ stepP (cellAt cells i).g_At d = x))
theorem filter_take_yes {α : Type} {l : List α} {p : α → Bool} {k : Nat} {d : α} (h : k < l.length) (hp : p (l.getD k d) = true) : (l.take (k + 1)).filter p = (l.take k).filter p ++ [l.getD k d] := by
  have e : l.getD k d = l[k] := by simp [List.getD_eq_getElem?_getD, h]
  rw [e] at hp ⊢
  rw [List.take_succ_eq_append_getElem h, List.filter_append]; simp [hp]
theorem filter_take_no {α : Type} {l : List α} {p : α → Bool} {k : Nat} {d : α} (h : k < l.length) (hp : p (l.getD k d) = false) : (l.take (k + 1)).filter p = (l.take k).filter p := by
  have e : l.getD k d = l[k] := by simp [List.getD_eq_getElem?_getD, h]
  rw [e] at hp
  rw [List.take_succ_eq_append_getElem h, List.filter_append]; simp [hp]
theorem evsN_succ {s : D_SignalSet} {cells : List D_SignalCell} {i : Nat} (h : i < cells.length) : evsN s cells i ++ cellEvs s cells (cellAt cells i) = evsN s cells (i + 1) := by
  rw [evsN, evsN, List.take_succ_eq_append_getElem h, List.flatMap_append, cellAt_eq h]; simp
theorem cellEvs_len (s : D_SignalSet) (cells : List D_SignalCell) (c : D_SignalCell) : (cellEvs s cells c).length ≤ 2 + c.g_Fired.length := by
  rw [cellEvs, ← allK_len c]; exact List.length_filter_le _ _
theorem evsN_len {s : D_SignalSet} {cells : List D_SignalCell} (h : ∀ c ∈ cells, c.g_Fired.length ≤ 6) : ∀ i, i ≤ cells.length → (evsN s cells i).length ≤ 8 * i
  | 0, _ => by simp [evsN]
  | i + 1, hi => by
    rw [← evsN_succ (by omega), List.length_append]
    have := evsN_len (s := s) h i (by omega)
    have h2 := cellEvs_len s cells (cellAt cells i)
    have h3 := h (cellAt cells i) (by rw [cellAt_eq (by omega)]; exact List.getElem_mem _)
    omega
theorem sym_false {α : Type} {a b : α} (h : (a = b) = False) : (b = a) = False := by
  simp only [eq_iff_iff, iff_false] at *; exact fun e => h e.symm
def OutSite (o : Id) : Prop := o.site = 32001000 ∨ o.site = 32015006 ∨ o.site = 32030003
def NearSite (o : Id) : Prop := o.site = 32002000 ∨ o.site = 67006003
def AllSite (o : Id) : Prop := o.site = 32006012 ∨ o.site = 32010009
theorem OutSite.ne {o : Id} (h : OutSite o) (s v : Nat) (h1 : ¬ (s = 32001000)) (h2 : ¬ (s = 32015006)) (h3 : ¬ (s = 32030003)) : (o = ⟨s, v⟩) = False := by
  simp only [eq_iff_iff, iff_false]; rintro rfl; rcases h with h | h | h <;> simp_all
theorem OutSite.ne' {o : Id} (h : OutSite o) (s v : Nat) (h1 : ¬ (s = 32001000)) (h2 : ¬ (s = 32015006)) (h3 : ¬ (s = 32030003)) : (⟨s, v⟩ = o) = False := sym_false (h.ne s v h1 h2 h3)
theorem NearSite.ne {o : Id} (h : NearSite o) (s v : Nat) (h1 : ¬ (s = 32002000)) (h2 : ¬ (s = 67006003)) : (o = ⟨s, v⟩) = False := by
  simp only [eq_iff_iff, iff_false]; rintro rfl; rcases h with h | h <;> simp_all
theorem NearSite.ne' {o : Id} (h : NearSite o) (s v : Nat) (h1 : ¬ (s = 32002000)) (h2 : ¬ (s = 67006003)) : (⟨s, v⟩ = o) = False := sym_false (h.ne s v h1 h2)
theorem AllSite.ne {o : Id} (h : AllSite o) (s v : Nat) (h1 : ¬ (s = 32006012)) (h2 : ¬ (s = 32010009)) : (o = ⟨s, v⟩) = False := by
  simp only [eq_iff_iff, iff_false]; rintro rfl; rcases h with h | h <;> simp_all
theorem AllSite.ne' {o : Id} (h : AllSite o) (s v : Nat) (h1 : ¬ (s = 32006012)) (h2 : ¬ (s = 32010009)) : (⟨s, v⟩ = o) = False := sym_false (h.ne s v h1 h2)

theorem map_snoc (l : List D_SignalEvent) (e : D_SignalEvent) : l.map eEvent ++ [[.int .i64 e.g_Kind, .int .i64 e.g_At.g_X, .int .i64 e.g_At.g_Y, .int .i64 e.g_Num]] = (l ++ [e]).map eEvent := by simp [eEvent]

noncomputable def cellsB (s : D_SignalSet) (cells : List D_SignalCell) : Bool := sigB s && (decide (cells.length ≤ 80) && okL s cells fun i => cellB s cells (cellAt cells i))
noncomputable def askN (s : D_SignalSet) (temp : Int) (cells : List D_SignalCell) : Int := if cellsB s cells then (if inB temp 1 16 then 0 else 2) else 1
/-- What is known of cells that are right. -/
structure CellsOk (s : D_SignalSet) (cells : List D_SignalCell) : Prop where
  set : SigSetOk s
  few : cells.length ≤ 80
  form : ∀ c ∈ cells, FormOk s c
  ris : ∀ i j : Nat, i < j → j < cells.length → ltB (cellAt cells i).g_At (cellAt cells j).g_At = true
theorem lin_ris {cells : List D_SignalCell} (h : ∀ j : Nat, j < cells.length → 0 < j → ltB (cellAt cells (j - 1)).g_At (cellAt cells j).g_At = true) : ∀ j i : Nat, i < j → j < cells.length → ltB (cellAt cells i).g_At (cellAt cells j).g_At = true
  | 0, _, hij, _ => by omega
  | j + 1, i, hij, hj => by
    have h1 := h (j + 1) hj (by omega)
    rw [Nat.add_sub_cancel] at h1
    rcases Nat.lt_or_ge i j with h2 | h2
    · exact ltB_trans (lin_ris h j i h2 (by omega)) h1
    · have : i = j := by omega
      subst this; exact h1
theorem cellsB_ok {s : D_SignalSet} {cells : List D_SignalCell} (h : cellsB s cells = true) : CellsOk s cells := by
  simp only [cellsB, okL, Bool.and_eq_true, List.all_eq_true, List.mem_range, decide_eq_true_eq, linB, Bool.or_eq_true] at h
  obtain ⟨h1, h2, h3, _⟩ := h
  refine ⟨sigB_iff.1 h1, h2, fun c hc => ?_, fun i j hij hj => lin_ris (fun j hj h0 => ?_) j i hij hj⟩
  · obtain ⟨j, hj, rfl⟩ := List.getElem_of_mem hc
    have := (h3 j hj).1
    rw [cellAt_eq hj] at this
    exact form_ok this
  · rcases (h3 j hj).2 with h | h
    · omega
    · exact h
theorem CellsOk.idx {s : D_SignalSet} {cells : List D_SignalCell} (h : CellsOk s cells) (i : Nat) (hi : i < cells.length) : idxN cells (cellAt cells i).g_At = i := by
  rw [idxN, List.findIdx_eq hi]
  refine ⟨by rw [cellAt_eq hi]; simp, fun j hj => ?_⟩
  have := h.ris j i hj hi
  rw [cellAt_eq (by omega), cellAt_eq hi] at this
  rw [cellAt_eq hi]
  simp only [decide_eq_false_iff_not]
  intro hc
  rw [hc, ltB_irr] at this
  cases this
theorem CellsOk.tiles {s : D_SignalSet} {cells : List D_SignalCell} (h : CellsOk s cells) : s.g_Tiles.length ≤ 160 := by
  have := h.set.set.t
  rw [xt_len] at this
  exact this.2
theorem tileAt_N {s : D_SignalSet} {t : Int} : tileAt s t = tN s t.toNat := rfl
theorem CellsOk.six {s : D_SignalSet} {cells : List D_SignalCell} (h : CellsOk s cells) (c : D_SignalCell) (hc : c ∈ cells) : c.g_Fired.length ≤ 6 := by
  have f := h.form c hc
  have h0 := f.t0
  have h1 := f.t1
  rw [f.fired, tileAt_N]
  exact (h.set.tiles _ (by omega)).few

/-- What EventsOf answers. -/
def EvAns (s : D_SignalSet) (temp : Int) (cells : List D_SignalCell) (L : List D_SignalEvent) (code : Int) : Prop :=
  code = askN s temp cells ∧ (code ≠ 0 → L = []) ∧ (code = 0 → ∃ ps, Ris ps ∧ (∀ x, x ∈ ps ↔ nearN cells cells.length 0 x) ∧ L = eventsL s temp cells ps)
theorem EvAns.one {s : D_SignalSet} {temp : Int} {cells : List D_SignalCell} {L L' : List D_SignalEvent} {code code' : Int} (h : EvAns s temp cells L code) (h' : EvAns s temp cells L' code') : L = L' ∧ code = code' := by
  obtain ⟨h1, h2, h3⟩ := h
  obtain ⟨k1, k2, k3⟩ := h'
  have e : code = code' := by rw [h1, k1]
  subst e
  refine ⟨?_, rfl⟩
  by_cases h0 : code = 0
  · obtain ⟨ps, a1, a2, rfl⟩ := h3 h0
    obtain ⟨qs, b1, b2, rfl⟩ := k3 h0
    rw [Ris.ext a1 b1 fun x => by rw [a2, b2]]
  · rw [h2 h0, k2 h0]

theorem l31OkAll_v (s : D_SignalSet) (cells : List D_SignalCell) (hs : SmallSet s) (hn : SmallNames s) : RetS Tryz.prog 62 [.iptr (eSet s), .sl (cells.map eCell)] (.bool (cellsB s cells)) :=
  l31Ok_v s cells (sigB s) _ (l31Set_v s hs hn) (fun h => (sigB_iff.1 h).form) fun hS hF i hi => by rw [cellAt_eq hi]; exact l31Cell_v s cells i hi hS hF

end Go.Proofs.YtpbniieiinhliaaGreat.V

namespace Go.Proofs.YtpbniieiinhliaaGreat.V
open Go.RowKit

def canE (s : D_SignalSet) (temp : Int) (cells : List D_SignalCell) (e : D_SignalEvent) : Bool :=
  if e.g_Kind = 1 then !decide (idxN cells e.g_At < cells.length) && (ptB e.g_At && (inB e.g_Num 0 ((s.g_Tiles.length : Int) - 1) && decide (temp ≤ strN s cells e.g_At (tileAt s e.g_Num) 4)))
  else if e.g_Kind = 2 then decide (idxN cells e.g_At < cells.length) && ((decide (e.g_Num = 0) || decide (e.g_Num = 1)) && bindB s cells (cellAt cells (idxN cells e.g_At)) e.g_Num)
  else if e.g_Kind = 3 then decide (idxN cells e.g_At < cells.length) && (inB e.g_Num 0 (((cellAt cells (idxN cells e.g_At)).g_Fired.length : Int) - 1) && fireB s (cellAt cells (idxN cells e.g_At)) e.g_Num.toNat)
  else false

theorem idx_at {cells : List D_SignalCell} {p : D_Point} (h : idxN cells p < cells.length) : (cellAt cells (idxN cells p)).g_At = p := by
  rw [cellAt_eq h]
  have := List.findIdx_getElem (xs := cells) (p := fun c : D_SignalCell => decide (c.g_At = p)) (w := h)
  exact of_decide_eq_true this
theorem idx_lt {cells : List D_SignalCell} {j : Nat} (h : j < cells.length) : idxN cells (cellAt cells j).g_At < cells.length := by
  rw [idxN, List.findIdx_lt_length]
  exact ⟨cells[j], List.getElem_mem h, by rw [cellAt_eq h]; simp⟩
theorem step_opp (p : D_Point) (k : Nat) (hk : k < 4) : stepP (stepP p k) (oppI k) = p := by
  obtain rfl | rfl | rfl | rfl : k = 0 ∨ k = 1 ∨ k = 2 ∨ k = 3 := by omega
  all_goals simp [stepP, oppI, inB]
theorem strN_pos {s : D_SignalSet} {cells : List D_SignalCell} {p : D_Point} {t : D_SignalTile} : ∀ m : Nat, 0 < strN s cells p t m → ∃ k : Nat, k < m ∧ gripB s cells p t k = true
  | 0, h => absurd h (by simp [strN])
  | m + 1, h => by
    rw [strN] at h
    split at h
    · rename_i hg; exact ⟨m, by omega, hg⟩
    · obtain ⟨k, hk, hg⟩ := strN_pos m h
      exact ⟨k, by omega, hg⟩
theorem att_near {s : D_SignalSet} {temp : Int} {cells : List D_SignalCell} {p : D_Point} {t : D_SignalTile} (ht : 1 ≤ temp) (h : temp ≤ strN s cells p t 4) (hp : ptB p = true) (hi : ¬ idxN cells p < cells.length) : nearN cells cells.length 0 p := by
  obtain ⟨k, hk, hg⟩ := strN_pos (s := s) (cells := cells) (p := p) (t := t) 4 (by omega)
  simp only [gripB, Bool.and_eq_true, decide_eq_true_eq] at hg
  refine ⟨⟨hp, hi⟩, .inl ⟨idxN cells (stepP p k), (oppI k).toNat, hg.1, ?_, ?_⟩⟩
  · obtain rfl | rfl | rfl | rfl : k = 0 ∨ k = 1 ∨ k = 2 ∨ k = 3 := by omega
    all_goals simp [oppI, inB]
  · rw [idx_at hg.1]
    have : (((oppI k).toNat : Nat) : Int) = oppI k := by
      obtain rfl | rfl | rfl | rfl : k = 0 ∨ k = 1 ∨ k = 2 ∨ k = 3 := by omega
      all_goals simp [oppI, inB]
    rw [this]
    exact step_opp p k hk

theorem mem_cellEvs {s : D_SignalSet} {cells : List D_SignalCell} {c : D_SignalCell} {e : D_SignalEvent} : e ∈ cellEvs s cells c ↔ e.g_At = c.g_At ∧ ((e.g_Kind = 2 ∧ (e.g_Num = 0 ∨ e.g_Num = 1) ∧ bindB s cells c e.g_Num = true) ∨ (e.g_Kind = 3 ∧ 0 ≤ e.g_Num ∧ e.g_Num < c.g_Fired.length ∧ fireB s c e.g_Num.toNat = true)) := by
  obtain ⟨kd, p, m⟩ := e
  simp only [cellEvs, List.mem_filter, allK, List.mem_append, List.mem_map, List.mem_range, List.mem_cons, List.not_mem_nil, or_false, D_SignalEvent.mk.injEq]
  constructor
  · rintro ⟨(⟨rfl, rfl, rfl⟩ | ⟨rfl, rfl, rfl⟩) | ⟨k, hk, rfl, rfl, rfl⟩, h⟩
    · exact ⟨rfl, .inl ⟨rfl, .inl rfl, by simpa [canB] using h⟩⟩
    · exact ⟨rfl, .inl ⟨rfl, .inr rfl, by simpa [canB] using h⟩⟩
    · exact ⟨rfl, .inr ⟨rfl, by omega, by omega, by simpa [canB] using h⟩⟩
  · rintro ⟨rfl, (⟨rfl, h1, h2⟩ | ⟨rfl, h0, h1, h2⟩)⟩
    · refine ⟨.inl ?_, by simpa [canB] using h2⟩
      rcases h1 with rfl | rfl
      · exact .inl ⟨rfl, rfl, rfl⟩
      · exact .inr ⟨rfl, rfl, rfl⟩
    · exact ⟨.inr ⟨m.toNat, by omega, rfl, rfl, by omega⟩, by simpa [canB] using h2⟩

theorem mem_events {s : D_SignalSet} {temp : Int} {cells : List D_SignalCell} {ps : List D_Point} {e : D_SignalEvent} (hok : CellsOk s cells) (ht : 1 ≤ temp) (hP : ∀ x, x ∈ ps ↔ nearN cells cells.length 0 x) : e ∈ eventsL s temp cells ps ↔ canE s temp cells e = true := by
  rw [eventsL, List.mem_append]
  have h1 : e ∈ evsN s cells cells.length ↔ ∃ j, j < cells.length ∧ e ∈ cellEvs s cells (cellAt cells j) := by
    rw [evsN, List.take_length, List.mem_flatMap]
    constructor
    · rintro ⟨c, hc, he⟩
      obtain ⟨j, hj, rfl⟩ := List.getElem_of_mem hc
      exact ⟨j, hj, by rw [cellAt_eq hj]; exact he⟩
    · rintro ⟨j, hj, he⟩
      exact ⟨cells[j], List.getElem_mem hj, by rw [← cellAt_eq hj]; exact he⟩
  have h2 : e ∈ attsN s temp cells ps ps.length ↔ ∃ k : Nat, e.g_Kind = 1 ∧ e.g_At ∈ ps ∧ k < s.g_Tiles.length ∧ e.g_Num = k ∧ attB s temp cells e.g_At k = true := by
    rw [attsN, List.take_length, List.mem_flatMap]
    constructor
    · rintro ⟨p, hp, he⟩
      simp only [attN, List.mem_map, List.mem_filter, List.mem_range] at he
      obtain ⟨k, ⟨hk, ha⟩, rfl⟩ := he
      exact ⟨k, rfl, hp, hk, rfl, ha⟩
    · rintro ⟨k, hk1, hp, hk, hn, ha⟩
      refine ⟨e.g_At, hp, ?_⟩
      simp only [attN, List.mem_map, List.mem_filter, List.mem_range]
      refine ⟨k, ⟨hk, ha⟩, ?_⟩
      obtain ⟨kd, p, m⟩ := e
      simp at hk1 hn ⊢
      exact ⟨hk1.symm, hn.symm⟩
  rw [h1, h2]
  constructor
  · rintro (⟨j, hj, he⟩ | ⟨k, hk1, hp, hk, hn, ha⟩)
    · obtain ⟨hat, h | h⟩ := mem_cellEvs.1 he
      · obtain ⟨hk, hd, hb⟩ := h
        have hix : idxN cells e.g_At = j := by rw [hat]; exact hok.idx j hj
        rw [canE, if_neg (by omega), if_pos hk, hix]
        simp only [Bool.and_eq_true, Bool.or_eq_true, decide_eq_true_eq]
        exact ⟨hj, hd, hb⟩
      · obtain ⟨hk, h0, h1, hb⟩ := h
        have hix : idxN cells e.g_At = j := by rw [hat]; exact hok.idx j hj
        rw [canE, if_neg (by omega), if_neg (by omega), if_pos hk, hix]
        simp only [Bool.and_eq_true, decide_eq_true_eq]
        exact ⟨hj, inB_of (by omega), hb⟩
    · have hg := ((hP _).1 hp).1
      rw [canE, if_pos hk1]
      simp only [Bool.and_eq_true, Bool.not_eq_true', decide_eq_false_iff_not, decide_eq_true_eq]
      refine ⟨hg.2, hg.1, inB_of (by omega), ?_⟩
      rw [hn]
      simpa [attB] using ha
  · intro h
    rw [canE] at h
    split at h
    · rename_i hk
      simp only [Bool.and_eq_true, Bool.not_eq_true', decide_eq_false_iff_not, decide_eq_true_eq] at h
      obtain ⟨h3, h4, h5, h6⟩ := h
      have := inB_true h5
      have hkk : ((e.g_Num.toNat : Nat) : Int) = e.g_Num := by omega
      exact .inr ⟨e.g_Num.toNat, hk, (hP _).2 (att_near ht h6 h4 h3), by omega, hkk.symm, by simp only [attB, hkk, decide_eq_true_eq]; exact h6⟩
    · split at h
      · rename_i _ hk
        simp only [Bool.and_eq_true, Bool.or_eq_true, decide_eq_true_eq] at h
        exact .inl ⟨_, h.1, mem_cellEvs.2 ⟨(idx_at h.1).symm, .inl ⟨hk, h.2.1, h.2.2⟩⟩⟩
      · split at h
        · rename_i _ _ hk
          simp only [Bool.and_eq_true, decide_eq_true_eq] at h
          have := inB_true h.2.1
          exact .inl ⟨_, h.1, mem_cellEvs.2 ⟨(idx_at h.1).symm, .inr ⟨hk, by omega, by omega, h.2.2⟩⟩⟩
        · cases h

end Go.Proofs.YtpbniieiinhliaaGreat.V

namespace Go.Proofs.YtpbniieiinhliaaGreat.V
open Go.RowKit

def bornC (s : D_SignalSet) (p : D_Point) (k : Int) : D_SignalCell := ⟨p, k, (tileAt s k).g_On, List.replicate 4 false, List.replicate (tileAt s k).g_Fires.length false⟩
/-- The first cell behind a point. -/
def putPos (cells : List D_SignalCell) (p : D_Point) : Nat := cells.findIdx fun c => ltB p c.g_At
def putC (cells : List D_SignalCell) (p : D_Point) (c : D_SignalCell) : List D_SignalCell := cells.take (putPos cells p) ++ c :: cells.drop (putPos cells p)
def fireTo (s : D_SignalSet) (c : D_SignalCell) (m : Int) : Int := (fireAt (tileAt s c.g_Tile) m.toNat).g_To
def bindC (c : D_SignalCell) (d : Int) : D_SignalCell := { c with g_Bound := c.g_Bound.set d.toNat true }
def fireC (s : D_SignalSet) (c : D_SignalCell) (m : Int) : D_SignalCell := { c with g_Fired := c.g_Fired.set m.toNat true, g_On := c.g_On.set (fireTo s c m).toNat true }
def nextI (cells : List D_SignalCell) (e : D_SignalEvent) : Nat := idxN cells (stepP e.g_At e.g_Num)
def bindL (cells : List D_SignalCell) (e : D_SignalEvent) : List D_SignalCell :=
  (cells.set (idxN cells e.g_At) (bindC (cellAt cells (idxN cells e.g_At)) e.g_Num)).set (nextI cells e) (bindC (cellAt cells (nextI cells e)) (oppI e.g_Num))
/-- What it comes to, where there is room. -/
def doE (s : D_SignalSet) (cells : List D_SignalCell) (e : D_SignalEvent) : List D_SignalCell :=
  if e.g_Kind = 1 then putC cells e.g_At (bornC s e.g_At e.g_Num)
  else if e.g_Kind = 2 then bindL cells e
  else cells.set (idxN cells e.g_At) (fireC s (cellAt cells (idxN cells e.g_At)) e.g_Num)
def fullE (cells : List D_SignalCell) (e : D_SignalEvent) : Bool := decide (e.g_Kind = 1) && decide (80 ≤ cells.length)

theorem putPos_le (cells : List D_SignalCell) (p : D_Point) : putPos cells p ≤ cells.length := List.findIdx_le_length
theorem putPos_before {cells : List D_SignalCell} {p : D_Point} {j : Nat} (h : j < putPos cells p) : ltB p (cellAt cells j).g_At = false := by
  have hj : j < cells.length := Nat.lt_of_lt_of_le h (putPos_le _ _)
  have := List.not_of_lt_findIdx (p := fun c : D_SignalCell => ltB p c.g_At) h
  rw [cellAt_eq hj]
  simpa using this
theorem putPos_at {cells : List D_SignalCell} {p : D_Point} (h : putPos cells p < cells.length) : ltB p (cellAt cells (putPos cells p)).g_At = true := by
  rw [cellAt_eq h]
  exact List.findIdx_getElem (xs := cells) (p := fun c : D_SignalCell => ltB p c.g_At) (w := h)
theorem putC_len (cells : List D_SignalCell) (p : D_Point) (c : D_SignalCell) : (putC cells p c).length = cells.length + 1 := by
  have := putPos_le cells p
  simp [putC]; omega

theorem cellAt_set {cells : List D_SignalCell} {i j : Nat} {c : D_SignalCell} (hi : i < cells.length) : cellAt (cells.set i c) j = if i = j then c else cellAt cells j := by
  simp only [cellAt, List.getD_eq_getElem?_getD, List.getElem?_set]
  split
  · rename_i h; subst h; simp [hi]
  · rfl

/-- What an event needs. -/
structure Can2 (s : D_SignalSet) (cells : List D_SignalCell) (e : D_SignalEvent) : Prop where
  at_ : idxN cells e.g_At < cells.length
  num : e.g_Num = 0 ∨ e.g_Num = 1
  next : nextI cells e < cells.length
  ne : nextI cells e ≠ idxN cells e.g_At
theorem can2 {s : D_SignalSet} {temp : Int} {cells : List D_SignalCell} {e : D_SignalEvent} (hc : canE s temp cells e = true) (hk : e.g_Kind = 2) : Can2 s cells e := by
  rw [canE, if_neg (by omega), if_pos hk] at hc
  simp only [Bool.and_eq_true, Bool.or_eq_true, decide_eq_true_eq] at hc
  obtain ⟨h1, h2, h3⟩ := hc
  simp only [bindB, Bool.and_eq_true] at h3
  have hm := h3.2
  have hat := idx_at h1
  unfold meetsB at hm
  rw [hat] at hm
  have hn : nextI cells e < cells.length := by
    unfold nextI
    by_cases h : idxN cells (stepP e.g_At e.g_Num) < cells.length
    · exact h
    · rw [dif_neg h] at hm; cases hm
  refine ⟨h1, h2, hn, fun he => ?_⟩
  have h4 := idx_at (cells := cells) (p := stepP e.g_At e.g_Num) hn
  have he' : idxN cells (stepP e.g_At e.g_Num) = idxN cells e.g_At := he
  rw [he', hat] at h4
  have hx := congrArg D_Point.g_X h4
  have hy := congrArg D_Point.g_Y h4
  rcases h2 with h | h <;> rw [h] at hx hy <;> simp [stepP] at hx hy <;> omega
structure Can3 (s : D_SignalSet) (cells : List D_SignalCell) (e : D_SignalEvent) : Prop where
  at_ : idxN cells e.g_At < cells.length
  n0 : 0 ≤ e.g_Num
  n1 : e.g_Num < (cellAt cells (idxN cells e.g_At)).g_Fired.length
theorem can3 {s : D_SignalSet} {temp : Int} {cells : List D_SignalCell} {e : D_SignalEvent} (hc : canE s temp cells e = true) (hk : e.g_Kind = 3) : Can3 s cells e := by
  rw [canE, if_neg (by omega), if_neg (by omega), if_pos hk] at hc
  simp only [Bool.and_eq_true, decide_eq_true_eq] at hc
  have := inB_true hc.2.1
  exact ⟨hc.1, by omega, by omega⟩
structure Can1 (s : D_SignalSet) (cells : List D_SignalCell) (e : D_SignalEvent) : Prop where
  free : ¬ idxN cells e.g_At < cells.length
  pt : ptB e.g_At = true
  n0 : 0 ≤ e.g_Num
  n1 : e.g_Num < s.g_Tiles.length
theorem can1 {s : D_SignalSet} {temp : Int} {cells : List D_SignalCell} {e : D_SignalEvent} (hc : canE s temp cells e = true) (hk : e.g_Kind = 1) : Can1 s cells e := by
  rw [canE, if_pos hk] at hc
  simp only [Bool.and_eq_true, Bool.not_eq_true', decide_eq_false_iff_not, decide_eq_true_eq] at hc
  have := inB_true hc.2.2.1
  exact ⟨hc.1, hc.2.1, by omega, by omega⟩
theorem can_kind {s : D_SignalSet} {temp : Int} {cells : List D_SignalCell} {e : D_SignalEvent} (hc : canE s temp cells e = true) : e.g_Kind = 1 ∨ e.g_Kind = 2 ∨ e.g_Kind = 3 := by
  rw [canE] at hc
  split at hc
  · exact .inl ‹_›
  · split at hc
    · exact .inr (.inl ‹_›)
    · split at hc
      · exact .inr (.inr ‹_›)
      · cases hc

/-- The cells stay right in form. -/
theorem doE_ok {s : D_SignalSet} {temp : Int} {cells : List D_SignalCell} {e : D_SignalEvent} (hok : CellsOk s cells) (hc : canE s temp cells e = true) (hf : fullE cells e = false) : CellsOk s (doE s cells e) := by
  have setOk : ∀ (i : Nat) (c : D_SignalCell) (l : List D_SignalCell), CellsOk s l → i < l.length → c.g_At = (cellAt l i).g_At → FormOk s c → CellsOk s (l.set i c) := fun i c l h hi hat hfm => by
    refine ⟨h.set, by simpa using h.few, fun x hx => ?_, fun a b hab hb => ?_⟩
    · rcases List.mem_or_eq_of_mem_set hx with hx | rfl
      · exact h.form x hx
      · exact hfm
    · have hb' : b < l.length := by simpa using hb
      have key : ∀ j, (cellAt (l.set i c) j).g_At = (cellAt l j).g_At := fun j => by
        rw [cellAt_set hi]
        split
        · rename_i hij; subst hij; exact hat
        · rfl
      rw [key, key]; exact h.ris a b hab hb'
  have mem : ∀ i, i < cells.length → FormOk s (cellAt cells i) := fun i hi => hok.form _ (by rw [cellAt_eq hi]; exact List.getElem_mem hi)
  have bf : ∀ i, i < cells.length → ∀ d, FormOk s (bindC (cellAt cells i) d) := fun i hi d => by
    have f := mem i hi
    exact ⟨f.at_, f.t0, f.t1, f.on, by simp [bindC, f.bound], f.fired⟩
  unfold doE
  split
  · rename_i hk
    have h := can1 hc hk
    have hm := putPos_le cells e.g_At
    have hfew : cells.length < 80 := by
      simp only [fullE, hk, decide_true, Bool.true_and, decide_eq_false_iff_not] at hf; omega
    have htf := hok.set.form _ (tile_mem h.n0 h.n1)
    have hpc : ∀ j, cellAt (putC cells e.g_At (bornC s e.g_At e.g_Num)) j = if j < putPos cells e.g_At then cellAt cells j else if j = putPos cells e.g_At then bornC s e.g_At e.g_Num else cellAt cells (j - 1) := fun j => by
      have hl : (cells.take (putPos cells e.g_At)).length = putPos cells e.g_At := by rw [List.length_take]; omega
      unfold putC cellAt
      simp only [List.getD_eq_getElem?_getD]
      by_cases h1 : j < putPos cells e.g_At
      · rw [if_pos h1, List.getElem?_append_left (by omega), List.getElem?_take_of_lt h1]
      · rw [if_neg h1, List.getElem?_append_right (by omega), hl]
        by_cases h2 : j = putPos cells e.g_At
        · rw [if_pos h2, h2, Nat.sub_self]; rfl
        · rw [if_neg h2, show j - putPos cells e.g_At = (j - 1 - putPos cells e.g_At) + 1 from by omega, List.getElem?_cons_succ, List.getElem?_drop]
          congr 2; omega
    have before : ∀ j, j < putPos cells e.g_At → ltB (cellAt cells j).g_At e.g_At = true := fun j hj => by
      refine ltB_tri (putPos_before hj) fun he => h.free ?_
      rw [he]; exact idx_lt (by omega)
    have after : ∀ j, putPos cells e.g_At ≤ j → j < cells.length → ltB e.g_At (cellAt cells j).g_At = true := fun j hj hjl => by
      have h0 := putPos_at (cells := cells) (p := e.g_At) (by omega)
      by_cases hje : j = putPos cells e.g_At
      · rw [hje]; exact h0
      · exact ltB_trans h0 (hok.ris _ _ (by omega) hjl)
    refine ⟨hok.set, by rw [putC_len]; omega, fun x hx => ?_, fun a b hab hb => ?_⟩
    · rcases List.mem_append.1 hx with hx | hx
      · exact hok.form x (List.mem_of_mem_take hx)
      · rcases List.mem_cons.1 hx with rfl | hx
        · exact ⟨h.pt, h.n0, h.n1, htf.on, by simp [bornC], by simp [bornC]⟩
        · exact hok.form x (List.mem_of_mem_drop hx)
    · rw [putC_len] at hb
      rw [hpc, hpc]
      by_cases a1 : a < putPos cells e.g_At
      · rw [if_pos a1]
        by_cases b1 : b < putPos cells e.g_At
        · rw [if_pos b1]; exact hok.ris a b hab (by omega)
        · rw [if_neg b1]
          by_cases b2 : b = putPos cells e.g_At
          · rw [if_pos b2]; exact before a a1
          · rw [if_neg b2]; exact hok.ris a (b - 1) (by omega) (by omega)
      · rw [if_neg a1, if_neg (show ¬ b < putPos cells e.g_At by omega), if_neg (show ¬ b = putPos cells e.g_At by omega)]
        by_cases a2 : a = putPos cells e.g_At
        · rw [if_pos a2]; exact after (b - 1) (by omega) (by omega)
        · rw [if_neg a2]; exact hok.ris _ _ (by omega) (by omega)
  · split
    · rename_i _ hk
      have h := can2 hc hk
      have ok1 := setOk (idxN cells e.g_At) (bindC (cellAt cells (idxN cells e.g_At)) e.g_Num) cells hok h.at_ rfl (bf _ h.at_ _)
      refine setOk (nextI cells e) _ _ ok1 (by simpa using h.next) ?_ (bf _ h.next _)
      rw [cellAt_set h.at_, if_neg (fun he => h.ne he.symm)]; rfl
    · rename_i h1 h2
      have hk : e.g_Kind = 3 := by rcases can_kind hc with h | h | h <;> omega
      have h := can3 hc hk
      have f := mem _ h.at_
      exact setOk _ _ _ hok h.at_ rfl ⟨f.at_, f.t0, f.t1, by simp [fireC, f.on], f.bound, by simp [fireC, f.fired]⟩

/-- What PlayEvent answers: the cells, and the code. -/
noncomputable def playA (s : D_SignalSet) (temp : Int) (cells : List D_SignalCell) (e : D_SignalEvent) : List D_SignalCell × Int :=
  if askN s temp cells = 0 then (if canE s temp cells e then (if fullE cells e then ([], 4) else (doE s cells e, 0)) else ([], 5)) else ([], askN s temp cells)
theorem ask_ok {s : D_SignalSet} {temp : Int} {cells : List D_SignalCell} (h0 : askN s temp cells = 0) : CellsOk s cells ∧ inB temp 1 16 = true := by
  unfold askN at h0
  split at h0
  · rename_i h
    refine ⟨cellsB_ok h, ?_⟩
    split at h0
    · assumption
    · cases h0
  · cases h0

end Go.Proofs.YtpbniieiinhliaaGreat.V
