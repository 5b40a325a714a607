/- Memory predicates over any program: a slice that holds given cells, lists of represented elements, frames. -/
import Derived.WalkKit
import Derived.WalkSpells
import Derived.WalkLawsBesides
import Derived.Lib.Hide
import Derived.Deep.QuietTactic
import Derived.BigQuiet
import Derived.StillTailTactics
import Derived.Deep.RegionWith
import Derived.Deep.RegionHeld3
import Derived.Deep.LoopGhost
import Derived.Deep.CutRange
import Derived.Deep.DeepCutAuto
set_option linter.unusedVariables false
set_option linter.unusedSimpArgs false
namespace Go.Proofs.YtpbniieiinhliaaGreat
open Go.RowKit

/-- 'v' is a slice of 'n' elements whose cells, laid flat, are 'xs'; 'fp' is its block, if it has one. -/
def Sl (w : World) (fp : List Nat) (v : Value) (n : Nat) (xs : List Value) : Prop :=
  ∃ A c, v = .slice A n c ∧ n ≤ c ∧ c ≤ maxLen ∧
    ((fp = [] ∧ n = 0) ∨ ∃ b o, fp = [b] ∧ A = some ⟨b, o, none⟩ ∧ ∀ j u, xs[j]? = some u → w.cell? ⟨b, o + j, none⟩ = some u)

/-- Two worlds agree on the blocks of a list. -/
def SameOn (fp : List Nat) (w w' : World) : Prop := ∀ b ∈ fp, w'.heap[b]? = w.heap[b]?

theorem SameOn.left {f g : List Nat} {w w' : World} (h : SameOn (f ++ g) w w') : SameOn f w w' := fun b hb => h b (List.mem_append_left _ hb)
theorem SameOn.right {f g : List Nat} {w w' : World} (h : SameOn (f ++ g) w w') : SameOn g w w' := fun b hb => h b (List.mem_append_right _ hb)
theorem SameOn.sub {f g : List Nat} {w w' : World} (h : SameOn f w w') (hs : ∀ b ∈ g, b ∈ f) : SameOn g w w' := fun b hb => h b (hs b hb)
theorem SameOn.trans {f : List Nat} {a b c : World} (h : SameOn f a b) (k : SameOn f b c) : SameOn f a c := fun x hx => (k x hx).trans (h x hx)
theorem SameOn.refl (f : List Nat) (w : World) : SameOn f w w := fun _ _ => rfl

/-- All blocks of a list lie in an interval. -/
def Within (fp : List Nat) (lo hi : Nat) : Prop := ∀ b ∈ fp, lo ≤ b ∧ b < hi
theorem Within.nil (lo hi : Nat) : Within [] lo hi := fun _ h => by cases h
theorem Within.one {b lo hi : Nat} (h1 : lo ≤ b) (h2 : b < hi) : Within [b] lo hi := fun x hx => by
  have : x = b := by simpa using hx
  subst this; exact ⟨h1, h2⟩
theorem Within.app {f g : List Nat} {lo hi : Nat} (hf : Within f lo hi) (hg : Within g lo hi) : Within (f ++ g) lo hi := fun b hb => by
  rcases List.mem_append.1 hb with h | h
  · exact hf b h
  · exact hg b h
theorem Within.left {f g : List Nat} {lo hi : Nat} (h : Within (f ++ g) lo hi) : Within f lo hi := fun b hb => h b (List.mem_append_left _ hb)
theorem Within.right {f g : List Nat} {lo hi : Nat} (h : Within (f ++ g) lo hi) : Within g lo hi := fun b hb => h b (List.mem_append_right _ hb)
theorem Within.wide {f : List Nat} {lo hi lo' hi' : Nat} (h : Within f lo hi) (h1 : lo' ≤ lo) (h2 : hi ≤ hi') : Within f lo' hi' := fun b hb =>
  ⟨Nat.le_trans h1 (h b hb).1, Nat.lt_of_lt_of_le (h b hb).2 h2⟩

theorem SameOn.below {f : List Nat} {lo hi B : Nat} {w w' : World} (hf : Within f lo hi) (hb : Below B w w') (hB : hi ≤ B) : SameOn f w w' :=
  fun b hm => hb.block b (Nat.lt_of_lt_of_le (hf b hm).2 hB)

theorem cell_same {w w' : World} {b o : Nat} (h : w'.heap[b]? = w.heap[b]?) : w'.cell? ⟨b, o, none⟩ = w.cell? ⟨b, o, none⟩ := World.cell?_of_block (a := ⟨b, o, none⟩) h

theorem Sl.same {w w' : World} {fp : List Nat} {v : Value} {n : Nat} {xs : List Value} (h : Sl w fp v n xs) (hs : SameOn fp w w') : Sl w' fp v n xs := by
  obtain ⟨A, c, hv, h1, h2, h3⟩ := h
  refine ⟨A, c, hv, h1, h2, ?_⟩
  rcases h3 with h3 | ⟨b, o, rfl, hA, hc⟩
  · exact .inl h3
  · refine .inr ⟨b, o, rfl, hA, fun j u hj => ?_⟩
    rw [cell_same (hs b (by simp))]; exact hc j u hj

theorem Sl.nil (w : World) : Sl w [] (.slice none 0 0) 0 [] := ⟨none, 0, rfl, Nat.le_refl _, by simp [maxLen], .inl ⟨rfl, rfl⟩⟩

/-- The elements 'ds' of a slice, each of 'sz' cells, each represented by 'rep' over blocks of its own. -/
def Reps {α : Type} (rep : World → List Nat → List Value → α → Prop) (sz : Nat) (w : World) (css : List (List Value)) (fps : List (List Nat)) (ds : List α) : Prop :=
  css.length = ds.length ∧ fps.length = ds.length ∧ ∀ (i : Nat) (cs : List Value) (f : List Nat) (d : α), css[i]? = some cs → fps[i]? = some f → ds[i]? = some d → rep w f cs d ∧ cs.length = sz

def SlOf {α : Type} (rep : World → List Nat → List Value → α → Prop) (sz : Nat) (w : World) (fp : List Nat) (v : Value) (ds : List α) : Prop :=
  ∃ css fps fp0, fp = fp0 ++ fps.flatten ∧ Sl w fp0 v ds.length css.flatten ∧ Reps rep sz w css fps ds

/-- What a representation must bear: it is kept wherever its blocks are kept. -/
def Framed {α : Type} (rep : World → List Nat → List Value → α → Prop) : Prop := ∀ w w' f cs d, rep w f cs d → SameOn f w w' → rep w' f cs d

theorem mem_flatten_of_get {α : Type} {fps : List (List α)} {i : Nat} {f : List α} (h : fps[i]? = some f) : ∀ b ∈ f, b ∈ fps.flatten := fun b hb =>
  List.mem_flatten.2 ⟨f, List.mem_of_getElem? h, hb⟩

theorem Reps.same {α : Type} {rep : World → List Nat → List Value → α → Prop} (hF : Framed rep) {sz : Nat} {w w' : World} {css : List (List Value)} {fps : List (List Nat)} {ds : List α}
    (h : Reps rep sz w css fps ds) (hs : SameOn fps.flatten w w') : Reps rep sz w' css fps ds :=
  ⟨h.1, h.2.1, fun i cs f d hc hf hd => ⟨hF _ _ _ _ _ (h.2.2 i cs f d hc hf hd).1 (hs.sub (mem_flatten_of_get hf)), (h.2.2 i cs f d hc hf hd).2⟩⟩

theorem SlOf.same {α : Type} {rep : World → List Nat → List Value → α → Prop} (hF : Framed rep) {sz : Nat} {w w' : World} {fp : List Nat} {v : Value} {ds : List α}
    (h : SlOf rep sz w fp v ds) (hs : SameOn fp w w') : SlOf rep sz w' fp v ds := by
  obtain ⟨css, fps, fp0, rfl, hsl, hr⟩ := h
  exact ⟨css, fps, fp0, rfl, hsl.same hs.left, hr.same hF hs.right⟩

theorem flatten_get {α : Type} {css : List (List α)} {sz : Nat} (h : ∀ cs ∈ css, cs.length = sz) {i j : Nat} {cs : List α} (hi : css[i]? = some cs) (hj : j < sz) : css.flatten[i * sz + j]? = cs[j]? := by
  induction css generalizing i with
  | nil => simp at hi
  | cons c r ih =>
    have hc : c.length = sz := h c (by simp)
    cases i with
    | zero =>
      simp at hi; subst hi
      rw [List.flatten_cons, List.getElem?_append_left (by omega)]; simp
    | succ i =>
      rw [List.flatten_cons, List.getElem?_append_right (by rw [hc, Nat.succ_mul]; omega)]
      have : (i + 1) * sz + j - c.length = i * sz + j := by rw [hc, Nat.succ_mul]; omega
      rw [this]
      exact ih (fun cs hcs => h cs (List.mem_cons_of_mem _ hcs)) (by simpa using hi)

theorem flatten_len {α : Type} {css : List (List α)} {sz : Nat} (h : ∀ cs ∈ css, cs.length = sz) : css.flatten.length = css.length * sz := by
  induction css with
  | nil => simp
  | cons c r ih =>
    rw [List.flatten_cons, List.length_append, h c (by simp), ih (fun cs hcs => h cs (List.mem_cons_of_mem _ hcs)), List.length_cons, Nat.succ_mul]; omega

theorem Reps.lens {α : Type} {rep : World → List Nat → List Value → α → Prop} {sz : Nat} {w : World} {css : List (List Value)} {fps : List (List Nat)} {ds : List α}
    (h : Reps rep sz w css fps ds) : ∀ cs ∈ css, cs.length = sz := fun cs hcs => by
  obtain ⟨i, hi, rfl⟩ := List.getElem_of_mem hcs
  have h1 : i < fps.length := by rw [h.2.1, ← h.1]; exact hi
  have h2 : i < ds.length := by rw [← h.1]; exact hi
  exact (h.2.2 i _ _ _ (List.getElem?_eq_getElem hi) (List.getElem?_eq_getElem h1) (List.getElem?_eq_getElem h2)).2

/-- The k-th element: where its cells lie, and what they stand for. -/
theorem SlOf.at_ {α : Type} {rep : World → List Nat → List Value → α → Prop} {sz : Nat} {w : World} {fp : List Nat} {A : Option Addr} {n c : Nat} {ds : List α}
    (h : SlOf rep sz w fp (.slice A n c) ds) (k : Nat) (hk : k < ds.length) :
    ∃ b o cs f, A = some ⟨b, o, none⟩ ∧ b ∈ fp ∧ (∀ x ∈ f, x ∈ fp) ∧ rep w f cs ds[k] ∧ cs.length = sz ∧ ∀ j u, cs[j]? = some u → w.cell? ⟨b, o + (k * sz + j), none⟩ = some u := by
  obtain ⟨css, fps, fp0, rfl, ⟨A', c', hv, _, _, hc⟩, hr⟩ := h
  simp only [Value.slice.injEq] at hv
  obtain ⟨rfl, hn, rfl⟩ := hv
  rcases hc with ⟨_, h0⟩ | ⟨b, o, rfl, rfl, hc⟩
  · omega
  have h1 : k < css.length := by rw [hr.1]; exact hk
  have h2 : k < fps.length := by rw [hr.2.1]; exact hk
  obtain ⟨hrep, hl⟩ := hr.2.2 k _ _ _ (List.getElem?_eq_getElem h1) (List.getElem?_eq_getElem h2) (List.getElem?_eq_getElem hk)
  refine ⟨b, o, css[k], fps[k], rfl, by simp, fun x hx => List.mem_append_right _ (mem_flatten_of_get (List.getElem?_eq_getElem h2) x hx), hrep, hl, fun j u hj => ?_⟩
  have hjl : j < sz := by rw [← hl]; exact (List.getElem?_eq_some_iff.1 hj).1
  exact hc _ u (by rw [flatten_get hr.lens (List.getElem?_eq_getElem h1) hjl]; exact hj)

theorem SlOf.len {α : Type} {rep : World → List Nat → List Value → α → Prop} {sz : Nat} {w : World} {fp : List Nat} {v : Value} {ds : List α}
    (h : SlOf rep sz w fp v ds) : ∃ A c, v = .slice A ds.length c ∧ ds.length ≤ c ∧ c ≤ maxLen := by
  obtain ⟨_, _, _, _, ⟨A, c, hv, h1, h2, _⟩, _⟩ := h
  exact ⟨A, c, hv, h1, h2⟩

theorem SlOf.n_eq {α : Type} {rep : World → List Nat → List Value → α → Prop} {sz : Nat} {w : World} {fp : List Nat} {A : Option Addr} {n c : Nat} {ds : List α}
    (h : SlOf rep sz w fp (.slice A n c) ds) : n = ds.length ∧ n ≤ 9223372036854775807 ∧ n ≤ c := by
  obtain ⟨A', c', hv, h1, h2⟩ := SlOf.len h
  simp only [Value.slice.injEq] at hv
  obtain ⟨rfl, rfl, rfl⟩ := hv
  simp only [maxLen] at h2
  exact ⟨rfl, by omega, h1⟩

theorem SlOf.nil {α : Type} (rep : World → List Nat → List Value → α → Prop) (sz : Nat) (w : World) : SlOf rep sz w [] (.slice none 0 0) ([] : List α) :=
  ⟨[], [], [], rfl, Sl.nil w, rfl, rfl, fun i cs f d hc => by simp at hc⟩

/-- Elements that are cells alone. -/
def Flat {α : Type} (enc : α → List Value) : World → List Nat → List Value → α → Prop := fun _ f cs d => f = [] ∧ cs = enc d
theorem Flat.framed {α : Type} (enc : α → List Value) : Framed (Flat enc) := fun _ _ _ _ _ h _ => h

theorem flatten_nils {α : Type} {fps : List (List α)} (h : ∀ f ∈ fps, f = []) : fps.flatten = [] := by
  rw [List.flatten_eq_nil_iff]; exact h

/-- A slice of flat elements, told by its cells. -/
theorem SlOf.mk_flat {α : Type} {enc : α → List Value} {sz : Nat} {w : World} {fp : List Nat} {v : Value} {ds : List α} (hz : ∀ d ∈ ds, (enc d).length = sz)
    (h : Sl w fp v ds.length (ds.flatMap enc)) : SlOf (Flat enc) sz w fp v ds := by
  refine ⟨ds.map enc, ds.map (fun _ => []), fp, by rw [flatten_nils (by simp), List.append_nil], ?_, by simp, by simp, ?_⟩
  · rw [← List.flatMap_def]; exact h
  · intro i cs f d hc hf hd
    simp only [List.getElem?_map] at hc hf
    rw [hd] at hc hf
    simp at hc hf
    subst hc; subst hf
    exact ⟨⟨rfl, rfl⟩, hz d (List.mem_of_getElem? hd)⟩

theorem SlOf.un_flat {α : Type} {enc : α → List Value} {sz : Nat} {w : World} {fp : List Nat} {v : Value} {ds : List α} (h : SlOf (Flat enc) sz w fp v ds) : Sl w fp v ds.length (ds.flatMap enc) := by
  obtain ⟨css, fps, fp0, rfl, hsl, hr⟩ := h
  have h0 : fps.flatten = [] := flatten_nils fun f hf => by
    obtain ⟨i, hi, rfl⟩ := List.getElem_of_mem hf
    have h1 : i < css.length := by rw [hr.1, ← hr.2.1]; exact hi
    have h2 : i < ds.length := by rw [← hr.2.1]; exact hi
    exact (hr.2.2 i _ _ _ (List.getElem?_eq_getElem h1) (List.getElem?_eq_getElem hi) (List.getElem?_eq_getElem h2)).1.1
  have hcss : css = ds.map enc := by
    apply List.ext_getElem?
    intro i
    rw [List.getElem?_map]
    by_cases hi : i < ds.length
    · have h1 : i < css.length := by rw [hr.1]; exact hi
      have h2 : i < fps.length := by rw [hr.2.1]; exact hi
      have := (hr.2.2 i _ _ _ (List.getElem?_eq_getElem h1) (List.getElem?_eq_getElem h2) (List.getElem?_eq_getElem hi)).1.2
      rw [List.getElem?_eq_getElem h1, List.getElem?_eq_getElem hi, this]; rfl
    · rw [List.getElem?_eq_none (by rw [hr.1]; omega), List.getElem?_eq_none (by omega)]; rfl
  rw [h0, List.append_nil]
  rw [hcss, ← List.flatMap_def] at hsl
  exact hsl

end Go.Proofs.YtpbniieiinhliaaGreat

namespace Go.Proofs.YtpbniieiinhliaaGreat
open Go.RowKit

/-- Only draws lie between. -/
def Q (w w' : World) : Prop := ∃ q, w' = w.drewN q
theorem Q.refl (w : World) : Q w w := ⟨0, rfl⟩
theorem Q.d {w w' : World} (h : Q w w') (n : Nat) : Q w (w'.drewN n) := by obtain ⟨q, rfl⟩ := h; exact ⟨q + n, by rw [World.drewN_drewN]⟩
theorem Q.d1 {w w' : World} (h : Q w w') : Q w w'.drew := by obtain ⟨q, rfl⟩ := h; exact ⟨q + 1, rfl⟩
theorem Q.n (w : World) (n : Nat) : Q w (w.drewN n) := ⟨n, rfl⟩
theorem Q.trans {a b c : World} (h : Q a b) (k : Q b c) : Q a c := by obtain ⟨q, rfl⟩ := k; exact h.d q
theorem below_dN {B : Nat} {a w : World} (h : Below B a w) (n : Nat) : Below B a (w.drewN n) := ⟨h.os, h.tape, h.output, h.size, h.block⟩
theorem Q.below {w w' : World} (h : Q w w') : Below w.heap.size w w' := by obtain ⟨q, rfl⟩ := h; exact below_dN (Below.refl _ _) q

theorem ret_b {a b : Bool} (h : a = b) : Ending.returned (.bool a) = .returned (.bool b) := by rw [h]
theorem ret_i {k : IntKind} {a b : Int} (h : a = b) : Ending.returned (.int k a) = .returned (.int k b) := by rw [h]

theorem take_ext {α : Type} {xs ys : List α} {k : Nat} (h : xs.take k = ys.take k) (hx : k < xs.length) (hy : k < ys.length) (he : xs[k] = ys[k]) : xs.take (k + 1) = ys.take (k + 1) := by
  rw [List.take_succ_eq_append_getElem hx, List.take_succ_eq_append_getElem hy, h, he]

theorem take_all {α : Type} {xs ys : List α} {k n : Nat} (h : xs.take k = ys.take k) (hx : n = xs.length) (hy : n = ys.length) (hk : ¬ k < n) : xs = ys := by
  rw [List.take_of_length_le (by omega), List.take_of_length_le (by omega)] at h
  exact h

theorem str_eq (a b : ByteArray) : (a.toList == b.toList) = decide (a = b) := by
  rw [ByteArray.toList_eq, ByteArray.toList_eq]
  by_cases h : a = b
  · subst h; simp
  · have : a.data.toList ≠ b.data.toList := fun he => h (ByteArray.ext (Array.ext' he))
    rw [decide_eq_false h]; exact beq_eq_false_iff_ne.2 this

/-- How an element of a list stands against one of another, at the place where they part. -/
theorem ne_of_get {α : Type} [DecidableEq α] {xs ys : List α} {k : Nat} (hx : k < xs.length) (hy : k < ys.length) (h : xs[k] ≠ ys[k]) : decide (xs = ys) = false := by
  rw [decide_eq_false_iff_not]; rintro rfl; exact h rfl
theorem ne_of_len {α : Type} [DecidableEq α] {xs ys : List α} {n m : Nat} (hx : n = xs.length) (hy : m = ys.length) (h : ¬ n = m) : decide (xs = ys) = false := by
  rw [decide_eq_false_iff_not]; rintro rfl; exact h (hx.trans hy.symm)
theorem eq_of_take {α : Type} [DecidableEq α] {xs ys : List α} {k n : Nat} (h : xs.take k = ys.take k) (hx : n = xs.length) (hy : n = ys.length) (hk : ¬ k < n) : true = decide (xs = ys) := by
  rw [take_all h hx hy hk]; simp

end Go.Proofs.YtpbniieiinhliaaGreat

namespace Go.Proofs.YtpbniieiinhliaaGreat
open Go.RowKit

def Unf (w : World) (b : Nat) : Prop := ∃ cs e, w.heap[b]? = some (.cells cs e (0, 0))
theorem Unf.same {w w' : World} {b : Nat} (h : Unf w b) (hs : w'.heap[b]? = w.heap[b]?) : Unf w' b := by
  obtain ⟨cs, e, hh⟩ := h; exact ⟨cs, e, hs.trans hh⟩
theorem Unf.lt {w : World} {b : Nat} (h : Unf w b) : b < w.heap.size := by
  obtain ⟨cs, e, hh⟩ := h; exact (Array.getElem?_eq_some_iff.1 hh).1
theorem Unf.frozen {w : World} {b : Nat} (h : Unf w b) (o : Nat) : w.frozen? ⟨b, o, none⟩ = false := by
  obtain ⟨cs, e, hh⟩ := h; simp [World.frozen?, hh]

/-- What a call has made: blocks of its own, each once, none frozen. -/
structure Fresh (w w' : World) (fp : List Nat) : Prop where
  within : Within fp w.heap.size w'.heap.size
  nodup : fp.Nodup
  unf : ∀ b ∈ fp, Unf w' b

theorem Fresh.nil (w w' : World) : Fresh w w' [] := ⟨Within.nil _ _, List.nodup_nil, (fun _ h => by cases h)⟩

theorem row_put {cur : Array Value} {L : List Value} (h : cur.toList.take L.length = L) (hlt : L.length < cur.size) (v : Value) :
    (cur.setIfInBounds L.length v).toList.take (L ++ [v]).length = L ++ [v] := by
  rw [Array.toList_setIfInBounds, List.length_append, List.length_singleton]
  rw [List.take_succ_eq_append_getElem (by simpa using hlt)]
  rw [List.getElem_set_self, List.take_set_of_le (Nat.le_refl _), h]

/-- Cells stored one behind the other. -/
def putCells (w : World) (g : Nat) : Nat → List Value → World
  | _, [] => w
  | i, v :: r => putCells (w.setCell ⟨g, i, none⟩ v) g (i + 1) r

theorem putCells_size (g : Nat) (vs : List Value) : ∀ (w : World) (i : Nat), (putCells w g i vs).heap.size = w.heap.size := by
  induction vs with
  | nil => intro w i; rfl
  | cons v r ih => intro w i; rw [putCells, ih]; simp [World.setCell]
theorem putCells_far {g b : Nat} (hb : b ≠ g) (vs : List Value) : ∀ (w : World) (i : Nat), (putCells w g i vs).heap[b]? = w.heap[b]? := by
  induction vs with
  | nil => intro w i; rfl
  | cons v r ih => intro w i; rw [putCells, ih]; exact Below.heap_setCell _ _ _ _ hb
theorem putCells_below {B g : Nat} (hg : B ≤ g) (vs : List Value) : ∀ (a w : World) (i : Nat), Below B a w → Below B a (putCells w g i vs) := by
  induction vs with
  | nil => intro a w i h; exact h
  | cons v r ih => intro a w i h; rw [putCells]; exact ih _ _ _ (h.setCell hg v)

theorem heap_setCell_same {w : World} {g : Nat} {cs : Array Value} {t : TypeId} {fr : Nat × Nat} (h : w.heap[g]? = some (.cells cs t fr)) (i : Nat) (u : Value) :
    (w.setCell ⟨g, i, none⟩ u).heap[g]? = some (.cells (cs.setIfInBounds i u) t fr) := by
  simp [World.setCell, Array.getElem?_modify, h]

theorem putCells_row {g : Nat} {t : TypeId} {fr : Nat × Nat} (vs : List Value) : ∀ (w : World) (cur : Array Value) (L : List Value), w.heap[g]? = some (.cells cur t fr) → cur.toList.take L.length = L → L.length + vs.length ≤ cur.size →
    ∃ cur', (putCells w g L.length vs).heap[g]? = some (.cells cur' t fr) ∧ cur'.size = cur.size ∧ cur'.toList.take (L ++ vs).length = L ++ vs := by
  induction vs with
  | nil => intro w cur L h1 h2 h3; exact ⟨cur, h1, rfl, by simpa using h2⟩
  | cons v r ih =>
    intro w cur L h1 h2 h3
    simp only [List.length_cons] at h3
    have := ih (w.setCell ⟨g, L.length, none⟩ v) (cur.setIfInBounds L.length v) (L ++ [v]) (heap_setCell_same h1 _ _) (row_put h2 (by omega) v) (by simp; omega)
    obtain ⟨cur', a, b, c⟩ := this
    refine ⟨cur', ?_, by simpa using b, by simpa using c⟩
    rw [putCells]
    simpa using a

/-- The state of a slice that is being built, k of n elements done. -/
def ToInv {α : Type} (rep : World → List Nat → List Value → α → Prop) (sz : Nat) (E : TypeId) (w0 : World) (g n : Nat) (xs : List α) (k : Nat) (wr : World) : Prop :=
  ∃ cur css fps, wr.heap[g]? = some (.cells cur E (0, 0)) ∧ cur.size = n * sz ∧ cur.toList.take (k * sz) = css.flatten ∧ Reps rep sz wr css fps (xs.take k) ∧
    Within fps.flatten (g + 1) wr.heap.size ∧ fps.flatten.Nodup ∧ (∀ b ∈ fps.flatten, Unf wr b) ∧ Below w0.heap.size w0 wr ∧ w0.heap.size ≤ g

theorem ToInv.blk {α : Type} {rep : World → List Nat → List Value → α → Prop} {sz : Nat} {E : TypeId} {w0 wr : World} {g n k : Nat} {xs : List α} (h : ToInv rep sz E w0 g n xs k wr) :
    ∃ cur : Array Value, wr.heap[g]? = some (.cells cur E (0, 0)) ∧ cur.size = n * sz := by
  obtain ⟨cur, _, _, h1, h2, _⟩ := h; exact ⟨cur, h1, h2⟩
theorem ToInv.below {α : Type} {rep : World → List Nat → List Value → α → Prop} {sz : Nat} {E : TypeId} {w0 wr : World} {g n k : Nat} {xs : List α} (h : ToInv rep sz E w0 g n xs k wr) : Below w0.heap.size w0 wr := by
  obtain ⟨_, _, _, _, _, _, _, _, _, _, h, _⟩ := h; exact h
theorem ToInv.base {α : Type} {rep : World → List Nat → List Value → α → Prop} {sz : Nat} {E : TypeId} {w0 wr : World} {g n k : Nat} {xs : List α} (h : ToInv rep sz E w0 g n xs k wr) : w0.heap.size ≤ g := by
  obtain ⟨_, _, _, _, _, _, _, _, _, _, _, h⟩ := h; exact h
theorem ToInv.lt {α : Type} {rep : World → List Nat → List Value → α → Prop} {sz : Nat} {E : TypeId} {w0 wr : World} {g n k : Nat} {xs : List α} (h : ToInv rep sz E w0 g n xs k wr) : g < wr.heap.size := by
  obtain ⟨cur, h, _⟩ := h.blk; exact (Array.getElem?_eq_some_iff.1 h).1
/-- The cells of the row in hand, for a walk: each holds something, none is frozen. -/
theorem ToInv.cell {α : Type} {rep : World → List Nat → List Value → α → Prop} {sz : Nat} {E : TypeId} {w0 wr : World} {g n k : Nat} {xs : List α} (h : ToInv rep sz E w0 g n xs k wr) {w1 : World} (hb : w1.heap[g]? = wr.heap[g]?) (i : Nat) (hi : i < n * sz) :
    ∃ u, w1.cell? ⟨g, i, none⟩ = some u := by
  obtain ⟨cur, h, hs⟩ := h.blk
  exact ⟨_, by rw [cell_of_row w1 g i cur E (0, 0) (hb.trans h)]; exact Array.getElem?_eq_getElem (by omega)⟩
theorem ToInv.unf {α : Type} {rep : World → List Nat → List Value → α → Prop} {sz : Nat} {E : TypeId} {w0 wr : World} {g n k : Nat} {xs : List α} (h : ToInv rep sz E w0 g n xs k wr) : Unf wr g := by
  obtain ⟨cur, h, hs⟩ := h.blk; exact ⟨cur, E, h⟩

theorem own_blk {w : World} {base : Nat} {e : TypeId} {size g n : Nat} {xs : List Value} (h : w.ownsRow base e size (.slice (some ⟨g, 0, none⟩) n n) n xs) :
    ∃ cur : Array Value, w.heap[g]? = some (.cells cur e (0, 0)) ∧ cur.size = n * size ∧ cur.toList = xs := by
  obtain ⟨hl, h | ⟨g', cap, cur, hv, _, hh, _, _, hs, ht⟩⟩ := h
  · simp at h
  · simp only [Value.slice.injEq, Option.some.injEq, Addr.mk.injEq] at hv
    obtain ⟨⟨rfl, _⟩, _, rfl⟩ := hv
    refine ⟨cur, hh, hs, ?_⟩
    rw [List.take_of_length_le (by simpa using Nat.le_of_eq hs)] at ht
    exact ht

theorem ToInv.start {α : Type} {rep : World → List Nat → List Value → α → Prop} {sz : Nat} {E : TypeId} {w0 wr : World} {n : Nat} {xs : List α} {base : Nat} {ys : List Value}
    (h : wr.ownsRow base E sz (.slice (some ⟨w0.heap.size, 0, none⟩) n n) n ys) (hg : w0.grownBy wr none) : ToInv rep sz E w0 w0.heap.size n xs 0 wr := by
  obtain ⟨cur, h1, h2, _⟩ := own_blk h
  exact ⟨cur, [], [], h1, h2, by simp, ⟨rfl, rfl, fun i cs f d hc => by simp at hc⟩, Within.nil _ _, List.nodup_nil, (fun _ h => by cases h),
    (Below.refl _ _).grown hg (Nat.le_refl _) (fun _ h => by cases h), Nat.le_refl _⟩

theorem Reps.snoc {α : Type} {rep : World → List Nat → List Value → α → Prop} {sz : Nat} {w : World} {css : List (List Value)} {fps : List (List Nat)} {ds : List α}
    (h : Reps rep sz w css fps ds) {cs : List Value} {f : List Nat} {d : α} (hr : rep w f cs d) (hl : cs.length = sz) : Reps rep sz w (css ++ [cs]) (fps ++ [f]) (ds ++ [d]) := by
  obtain ⟨h1, h2, h3⟩ := h
  refine ⟨by simp [h1], by simp [h2], fun i cs' f' d' hc hf hd => ?_⟩
  by_cases hi : i < ds.length
  · rw [List.getElem?_append_left (by omega)] at hc hf hd
    exact h3 i _ _ _ hc hf hd
  · rw [List.getElem?_append_right (by omega)] at hc hf hd
    rw [h1] at hc
    rw [h2] at hf
    by_cases h0 : i - ds.length = 0
    · rw [h0] at hc hf hd
      simp at hc hf hd
      subst hc; subst hf; subst hd
      exact ⟨hr, hl⟩
    · rw [List.getElem?_eq_none (by simp; omega)] at hd; cases hd

theorem ToInv.step {α : Type} {rep : World → List Nat → List Value → α → Prop} (hF : Framed rep) {sz : Nat} {E : TypeId} {w0 wr w1 : World} {g n k : Nat} {xs : List α} (h : ToInv rep sz E w0 g n xs k wr)
    (hk : k < xs.length) (hn : n = xs.length) (hb : Below wr.heap.size wr w1) {cs : List Value} {fp : List Nat} (hr : rep w1 fp cs xs[k]) (hl : cs.length = sz) (hfr : Fresh wr w1 fp) :
    ToInv rep sz E w0 g n xs (k + 1) (putCells w1 g (k * sz) cs) := by
  have hbase := h.base
  have hglt := h.lt
  obtain ⟨cur, css, fps, h1, h2, h3, h4, h5, h6, h7, h8, _⟩ := h
  have h1' : w1.heap[g]? = some (.cells cur E (0, 0)) := (hb.block g hglt).trans h1
  have hlen : css.flatten.length = k * sz := by
    rw [flatten_len h4.lens, h4.1, List.length_take, Nat.min_eq_left (by omega)]
  have hroom : k * sz + sz ≤ n * sz := by rw [← Nat.succ_mul]; exact Nat.mul_le_mul_right _ (by omega)
  obtain ⟨cur', a, b, c⟩ := putCells_row (g := g) cs w1 cur css.flatten h1' (by rw [hlen]; exact h3) (by rw [hlen, hl, h2]; exact hroom)
  have hfg : ∀ x ∈ fps.flatten ++ fp, x ≠ g := fun x hx => by
    rcases List.mem_append.1 hx with hx | hx
    · have := (h5 x hx).1; omega
    · have := (hfr.within x hx).1; omega
  have hsame : ∀ x, x ≠ g → (putCells w1 g (k * sz) cs).heap[x]? = w1.heap[x]? := fun x hx => putCells_far hx cs w1 _
  rw [hlen] at a
  refine ⟨cur', css ++ [cs], fps ++ [fp], a, b.trans h2, ?_, ?_, ?_, ?_, ?_, ?_, hbase⟩
  · rw [List.flatten_append, List.flatten_singleton]
    have e : (css.flatten ++ cs).length = (k + 1) * sz := by rw [List.length_append, hlen, hl, Nat.succ_mul]
    rw [e] at c
    exact c
  · rw [List.take_succ_eq_append_getElem hk]
    refine Reps.snoc ?_ (hF _ _ _ _ _ hr fun x hx => hsame x (hfg x (List.mem_append_right _ hx))) hl
    refine h4.same hF fun x hx => (hsame x (hfg x (List.mem_append_left _ hx))).trans (hb.block x (h5 x hx).2)
  · rw [putCells_size, List.flatten_append, List.flatten_singleton]
    exact (h5.wide (Nat.le_refl _) hb.size).app (hfr.within.wide hglt (Nat.le_refl _))
  · rw [List.flatten_append, List.flatten_singleton]
    refine List.nodup_append.2 ⟨h6, hfr.nodup, fun x hx y hy => ?_⟩
    have := (h5 x hx).2
    have := (hfr.within y hy).1
    omega
  · rw [List.flatten_append, List.flatten_singleton]
    intro x hx
    refine Unf.same ?_ (hsame x (hfg x hx))
    rcases List.mem_append.1 hx with hx | hx
    · exact (h7 x hx).same (hb.block x (h5 x hx).2)
    · exact hfr.unf x hx
  · exact putCells_below hbase cs _ _ _ (h8.trans (hb.mono h8.size))

theorem ToInv.done {α : Type} {rep : World → List Nat → List Value → α → Prop} {sz : Nat} {E : TypeId} {w0 wr : World} {g n k : Nat} {xs : List α} (h : ToInv rep sz E w0 g n xs k wr)
    (hk : ¬ k < n) (hn : n = xs.length) (hm : n ≤ 9223372036854775807) : ∃ fp, SlOf rep sz wr fp (.slice (some ⟨g, 0, none⟩) n n) xs ∧ Fresh w0 wr fp := by
  have hbase := h.base
  have hglt := h.lt
  have hunf := h.unf
  obtain ⟨cur, css, fps, h1, h2, h3, h4, h5, h6, h7, h8, _⟩ := h
  rw [List.take_of_length_le (by omega)] at h4
  have hlen : css.flatten.length = n * sz := by rw [flatten_len h4.lens, h4.1, hn]
  have hcur : cur.toList = css.flatten := by
    rw [List.take_of_length_le (by rw [Array.length_toList, h2]; exact Nat.mul_le_mul_right _ (by omega))] at h3
    exact h3
  refine ⟨g :: fps.flatten, ⟨css, fps, [g], rfl, ⟨some ⟨g, 0, none⟩, n, by rw [hn], by omega, by simp only [maxLen]; omega, .inr ⟨g, 0, rfl, rfl, fun j u hj => ?_⟩⟩, h4⟩, ?_, ?_, ?_⟩
  · rw [cell_of_row wr g (0 + j) cur E (0, 0) h1, Nat.zero_add, ← Array.getElem?_toList, hcur]; exact hj
  · intro x hx
    rcases List.mem_cons.1 hx with rfl | hx
    · exact ⟨hbase, hglt⟩
    · have := h5 x hx; omega
  · refine List.nodup_cons.2 ⟨fun hg => ?_, h6⟩
    have := (h5 g hg).1; omega
  · intro x hx
    rcases List.mem_cons.1 hx with rfl | hx
    · exact hunf
    · exact h7 x hx

end Go.Proofs.YtpbniieiinhliaaGreat

namespace Go.Proofs.YtpbniieiinhliaaGreat
open Go.RowKit

/-- Between two worlds the blocks from lo to hi are kept. -/
def Keep (lo hi : Nat) (a b : World) : Prop := ∀ x, lo ≤ x → x < hi → b.heap[x]? = a.heap[x]?
theorem Keep.refl (lo hi : Nat) (a : World) : Keep lo hi a a := fun _ _ _ => rfl
theorem Keep.set_ {lo hi : Nat} {a b : World} (h : Keep lo hi a b) {g i : Nat} (hg : g < lo) (v : Value) : Keep lo hi a (b.setCell ⟨g, i, none⟩ v) := fun x h1 h2 =>
  (Below.heap_setCell _ _ _ _ (show x ≠ g by omega)).trans (h x h1 h2)
theorem Keep.below {lo hi B : Nat} {a b c : World} (h : Keep lo hi a b) (hb : Below B b c) (hB : hi ≤ B) : Keep lo hi a c := fun x h1 h2 => (hb.block x (by omega)).trans (h x h1 h2)
theorem Keep.on {lo hi : Nat} {a b : World} (h : Keep lo hi a b) {fp : List Nat} (hf : Within fp lo hi) : SameOn fp a b := fun x hx => h x (hf x hx).1 (hf x hx).2

theorem heap_lt {w : World} {g : Nat} {o : Obj} (h : w.heap[g]? = some o) : g < w.heap.size := (Array.getElem?_eq_some_iff.1 h).1
theorem blk3 (w : World) (o1 o2 o3 : Obj) : (((w.alloc o1).alloc o2).alloc o3).heap[w.heap.size]? = some o1 ∧ (((w.alloc o1).alloc o2).alloc o3).heap[w.heap.size + 1]? = some o2 ∧ (((w.alloc o1).alloc o2).alloc o3).heap[w.heap.size + 1 + 1]? = some o3 := by
  refine ⟨?_, ?_, ?_⟩
  · rw [Below.heap_alloc _ _ _ (by simp; omega), Below.heap_alloc _ _ _ (by simp), heap_alloc_new]
  · rw [Below.heap_alloc _ _ _ (by simp)]
    have := heap_alloc_new (w.alloc o1) o2
    simpa using this
  · have := heap_alloc_new ((w.alloc o1).alloc o2) o3
    simpa using this
theorem below3 (w : World) (o1 o2 o3 : Obj) : Below w.heap.size w (((w.alloc o1).alloc o2).alloc o3) := (((Below.refl _ _).alloc (Nat.le_refl _) _).alloc (by simp) _).alloc (by simp; omega) _
theorem size3 (w : World) (o1 o2 o3 : Obj) : (((w.alloc o1).alloc o2).alloc o3).heap.size = w.heap.size + 1 + 1 + 1 := by simp
theorem size_set (w : World) (p : Addr) (v : Value) : (w.setCell p v).heap.size = w.heap.size := by simp [World.setCell]

structure FreshAt (lo hi : Nat) (w : World) (fp : List Nat) : Prop where
  within : Within fp lo hi
  nodup : fp.Nodup
  unf : ∀ b ∈ fp, Unf w b
theorem FreshAt.nil (lo hi : Nat) (w : World) : FreshAt lo hi w [] := ⟨Within.nil _ _, List.nodup_nil, (fun _ h => by cases h)⟩
theorem Fresh.at_ {W w1 w' : World} {fp : List Nat} (h : Fresh W w1 fp) {lo : Nat} (hk : Keep lo w1.heap.size w1 w') (hl : lo ≤ W.heap.size) : FreshAt W.heap.size w1.heap.size w' fp :=
  ⟨h.within, h.nodup, fun b hb => (h.unf b hb).same (hk b (Nat.le_trans hl (h.within b hb).1) (h.within b hb).2)⟩
theorem FreshAt.app {a b b' c : Nat} {w : World} {f g : List Nat} (h : FreshAt a b w f) (k : FreshAt b' c w g) (hb : b ≤ b') (hab : a ≤ b) (hc : b' ≤ c) : FreshAt a c w (f ++ g) :=
  ⟨(h.within.wide (Nat.le_refl _) (by omega)).app (k.within.wide (by omega) (Nat.le_refl _)),
    List.nodup_append.2 ⟨h.nodup, k.nodup, fun x hx y hy => by have := (h.within x hx).2; have := (k.within y hy).1; omega⟩,
    fun x hx => by
      rcases List.mem_append.1 hx with hx | hx
      · exact h.unf x hx
      · exact k.unf x hx⟩
theorem FreshAt.fresh {a c : Nat} {w w' : World} {fp : List Nat} (h : FreshAt a c w' fp) (h1 : w.heap.size ≤ a) (h2 : c ≤ w'.heap.size) : Fresh w w' fp := ⟨h.within.wide h1 h2, h.nodup, h.unf⟩

/-- Of what was there only the blocks of a list may have turned. -/
structure Only (fp : List Nat) (w w' : World) : Prop where
  os : w'.os = w.os
  tape : w'.tape = w.tape
  output : w'.output = w.output
  size : w.heap.size ≤ w'.heap.size
  block : ∀ x, x < w.heap.size → x ∉ fp → w'.heap[x]? = w.heap[x]?
  unf : ∀ x, Unf w x → Unf w' x
theorem Only.refl (fp : List Nat) (w : World) : Only fp w w := ⟨rfl, rfl, rfl, Nat.le_refl _, fun _ _ _ => rfl, fun _ h => h⟩
theorem Only.trans {fp : List Nat} {a b c : World} (h : Only fp a b) (k : Only fp b c) : Only fp a c :=
  ⟨k.os.trans h.os, k.tape.trans h.tape, k.output.trans h.output, Nat.le_trans h.size k.size, fun x h1 h2 => (k.block x (Nat.lt_of_lt_of_le h1 h.size) h2).trans (h.block x h1 h2), fun x hx => k.unf x (h.unf x hx)⟩
theorem Only.more {fp gp : List Nat} {a b : World} (h : Only fp a b) (hs : ∀ x ∈ fp, x ∈ gp) : Only gp a b :=
  ⟨h.os, h.tape, h.output, h.size, fun x h1 h2 => h.block x h1 (fun hx => h2 (hs x hx)), h.unf⟩
theorem Only.of_below {fp : List Nat} {a b : World} (h : Below a.heap.size a b) : Only fp a b :=
  ⟨h.os, h.tape, h.output, h.size, fun x h1 _ => h.block x h1, fun x hx => hx.same (h.block x hx.lt)⟩
theorem unf_setCell {w : World} {p : Addr} {v : Value} {x : Nat} (h : Unf w x) : Unf (w.setCell p v) x := by
  obtain ⟨cs, e, h⟩ := h
  by_cases hx : p.block = x
  · subst hx
    exact ⟨_, e, by simp [World.setCell, Array.getElem?_modify, h]; rfl⟩
  · exact ⟨cs, e, (Below.heap_setCell w p v x (fun e => hx e.symm)).trans h⟩
theorem Only.set_ {fp : List Nat} {g i : Nat} (w : World) (hg : g ∈ fp) (v : Value) : Only fp w (w.setCell ⟨g, i, none⟩ v) :=
  ⟨rfl, rfl, rfl, by simp [World.setCell], fun x _ hx => Below.heap_setCell _ _ _ _ (fun e => hx (by rw [e]; exact hg)), fun _ h => unf_setCell h⟩
theorem Only.same {fp gp : List Nat} {a b : World} (h : Only fp a b) (hd : ∀ x ∈ gp, x ∉ fp) (hl : ∀ x ∈ gp, x < a.heap.size) : SameOn gp a b := fun x hx => h.block x (hl x hx) (hd x hx)
theorem Only.below {fp : List Nat} {w w' : World} (h : Only fp w w') {B : Nat} (hB : B ≤ w.heap.size) (hf : ∀ x ∈ fp, B ≤ x) : Below B w w' :=
  ⟨h.os, h.tape, h.output, h.size, fun k hk => h.block k (by omega) (fun hx => by have := hf k hx; omega)⟩

/-- One element of a row while it is written: its cells stand at lo in block b; its inner blocks are f. -/
structure ElemSt (b lo sz : Nat) (fp f : List Nat) (w0 w : World) (cs : List Value) : Prop where
  only : Only fp w0 w
  far : ∀ x ∈ fp, x < w0.heap.size → x ≠ b → x ∉ f → w.heap[x]? = w0.heap[x]?
  out : ∀ j, (j < lo ∨ lo + sz ≤ j) → w.cell? ⟨b, j, none⟩ = w0.cell? ⟨b, j, none⟩
  in_ : ∀ j u, cs[j]? = some u → w.cell? ⟨b, lo + j, none⟩ = some u
  len : cs.length = sz
  unf : Unf w b
  mem : b ∈ fp
theorem ElemSt.start {b lo sz : Nat} {fp f : List Nat} {w : World} {cs : List Value} (h : ∀ j u, cs[j]? = some u → w.cell? ⟨b, lo + j, none⟩ = some u) (hl : cs.length = sz) (hu : Unf w b) (hm : b ∈ fp) : ElemSt b lo sz fp f w w cs :=
  ⟨Only.refl _ _, fun _ _ _ _ _ => rfl, fun _ _ => rfl, h, hl, hu, hm⟩
theorem ElemSt.below {b lo sz : Nat} {fp f : List Nat} {w0 w w1 : World} {cs : List Value} (h : ElemSt b lo sz fp f w0 w cs) (hb : Below w.heap.size w w1) : ElemSt b lo sz fp f w0 w1 cs :=
  have e := hb.block b h.unf.lt
  ⟨h.only.trans (Only.of_below hb), fun x h1 h2 h3 h4 => (hb.block x (Nat.lt_of_lt_of_le h2 h.only.size)).trans (h.far x h1 h2 h3 h4), fun j hj => (cell_same e).trans (h.out j hj), fun j u hj => (cell_same e).trans (h.in_ j u hj), h.len, h.unf.same e, h.mem⟩
theorem ElemSt.set_ {b lo sz : Nat} {fp f : List Nat} {w0 w : World} {cs : List Value} (h : ElemSt b lo sz fp f w0 w cs) (i : Nat) (v : Value) (hi : i < sz) : ElemSt b lo sz fp f w0 (w.setCell ⟨b, lo + i, none⟩ v) (cs.set i v) := by
  have hl : i < cs.length := by rw [h.len]; exact hi
  refine ⟨h.only.trans (Only.set_ w h.mem v), fun x h1 h2 h3 h4 => (Below.heap_setCell _ _ _ _ h3).trans (h.far x h1 h2 h3 h4), fun j hj => ?_, fun j u hj => ?_, by simpa using h.len, unf_setCell h.unf, h.mem⟩
  · rw [World.cell?_setCell_other _ _ _ _ (by intro e; injection e with _ e; omega)]; exact h.out j hj
  · by_cases hij : j = i
    · subst hij
      rw [List.getElem?_set_self hl] at hj
      injection hj with hj
      subst hj
      exact World.cell?_setCell_same _ _ _ (h.in_ j _ (List.getElem?_eq_getElem hl))
    · rw [List.getElem?_set_ne (by omega)] at hj
      rw [World.cell?_setCell_other _ _ _ _ (by intro e; injection e with _ e; omega)]; exact h.in_ j u hj
theorem ElemSt.inner {b lo sz : Nat} {fp f g : List Nat} {w0 w w1 : World} {cs : List Value} (h : ElemSt b lo sz fp f w0 w cs) (ho : Only g w w1) (hg : ∀ x ∈ g, x ∈ f) (hf : ∀ x ∈ f, x ∈ fp) (hb : b ∉ f) : ElemSt b lo sz fp f w0 w1 cs :=
  have e := ho.block b h.unf.lt (fun hx => hb (hg b hx))
  ⟨h.only.trans (ho.more fun x hx => hf x (hg x hx)), fun x h1 h2 h3 h4 => (ho.block x (Nat.lt_of_lt_of_le h2 h.only.size) (fun hx => h4 (hg x hx))).trans (h.far x h1 h2 h3 h4),
    fun j hj => (cell_same e).trans (h.out j hj), fun j u hj => (cell_same e).trans (h.in_ j u hj), h.len, ho.unf b h.unf, h.mem⟩

theorem flatten_far {fps : List (List Nat)} (h : fps.flatten.Nodup) {i j : Nat} {f g : List Nat} (hi : fps[i]? = some f) (hj : fps[j]? = some g) (hij : i ≠ j) : ∀ x ∈ f, x ∉ g := by
  induction fps generalizing i j with
  | nil => simp at hi
  | cons a r ih =>
    rw [List.flatten_cons] at h
    obtain ⟨h1, h2, h3⟩ := List.nodup_append.1 h
    intro x hx hg
    cases i with
    | zero =>
      cases j with
      | zero => exact hij rfl
      | succ j =>
        simp at hi hj; subst hi
        exact h3 x hx x (List.mem_flatten.2 ⟨g, List.mem_of_getElem? hj, hg⟩) rfl
    | succ i =>
      cases j with
      | zero =>
        simp at hi hj; subst hj
        exact h3 x hg x (List.mem_flatten.2 ⟨f, List.mem_of_getElem? hi, hx⟩) rfl
      | succ j => exact ih h2 (by simpa using hi) (by simpa using hj) (by omega) x hx hg
theorem flatten_nodup_get {fps : List (List Nat)} (h : fps.flatten.Nodup) {i : Nat} {f : List Nat} (hi : fps[i]? = some f) : f.Nodup := by
  induction fps generalizing i with
  | nil => simp at hi
  | cons a r ih =>
    rw [List.flatten_cons] at h
    obtain ⟨h1, h2, h3⟩ := List.nodup_append.1 h
    cases i with
    | zero => simp at hi; subst hi; exact h1
    | succ i => exact ih h2 (by simpa using hi)

theorem flatten_set_out {css : List (List Value)} {sz k : Nat} {cs' : List Value} (h : ∀ cs ∈ css, cs.length = sz) (hl : cs'.length = sz) (hk : k < css.length) {j : Nat} (hj : j < k * sz ∨ (k + 1) * sz ≤ j) : (css.set k cs').flatten[j]? = css.flatten[j]? := by
  induction css generalizing k j with
  | nil => simp at hk
  | cons c r ih =>
    have hc : c.length = sz := h c (by simp)
    have hr : ∀ cs ∈ r, cs.length = sz := fun cs hcs => h cs (List.mem_cons_of_mem _ hcs)
    cases k with
    | zero =>
      simp only [List.set_cons_zero, List.flatten_cons]
      rw [List.getElem?_append_right (by omega), List.getElem?_append_right (by omega), hl, hc]
    | succ k =>
      simp only [List.set_cons_succ, List.flatten_cons]
      by_cases hjs : j < sz
      · rw [List.getElem?_append_left (by omega), List.getElem?_append_left (by omega)]
      · rw [List.getElem?_append_right (by omega), List.getElem?_append_right (by omega)]
        refine ih hr (by simpa using hk) ?_
        simp only [Nat.succ_mul] at hj ⊢
        omega

/-- The k-th element of a slice of one's own, and what it takes to say that it has been written anew. -/
theorem SlOf.put {α : Type} {rep : World → List Nat → List Value → α → Prop} (hF : Framed rep) {sz : Nat} {w : World} {fp : List Nat} {A : Option Addr} {n c : Nat} {ds : List α}
    (h : SlOf rep sz w fp (.slice A n c) ds) (nd : fp.Nodup) (hlt : ∀ b ∈ fp, b < w.heap.size) (k : Nat) (hk : k < ds.length) :
    ∃ b o cs f, A = some ⟨b, o, none⟩ ∧ b ∈ fp ∧ (∀ x ∈ f, x ∈ fp) ∧ b ∉ f ∧ f.Nodup ∧ rep w f cs ds[k] ∧ cs.length = sz ∧ (∀ j u, cs[j]? = some u → w.cell? ⟨b, o + k * sz + j, none⟩ = some u) ∧
      ∀ w' d' cs', ElemSt b (o + k * sz) sz fp f w w' cs' → rep w' f cs' d' → SlOf rep sz w' fp (.slice A n c) (ds.set k d') := by
  obtain ⟨css, fps, fp0, rfl, ⟨A', c', hv, hn1, hn2, hc⟩, hr⟩ := h
  simp only [Value.slice.injEq] at hv
  obtain ⟨rfl, hn, rfl⟩ := hv
  rcases hc with ⟨_, h0⟩ | ⟨b, o, rfl, rfl, hc⟩
  · omega
  have h1 : k < css.length := by rw [hr.1]; exact hk
  have h2 : k < fps.length := by rw [hr.2.1]; exact hk
  obtain ⟨hrep, hl⟩ := hr.2.2 k _ _ _ (List.getElem?_eq_getElem h1) (List.getElem?_eq_getElem h2) (List.getElem?_eq_getElem hk)
  obtain ⟨nd1, nd2, nd3⟩ := List.nodup_append.1 nd
  have hbf : ∀ f, fps[k]? = some f → b ∉ f := fun f hf hb => nd3 b (by simp) b (mem_flatten_of_get hf b hb) rfl
  refine ⟨b, o, css[k], fps[k], rfl, by simp, fun x hx => List.mem_append_right _ (mem_flatten_of_get (List.getElem?_eq_getElem h2) x hx), hbf _ (List.getElem?_eq_getElem h2), flatten_nodup_get nd2 (List.getElem?_eq_getElem h2), hrep, hl, fun j u hj => ?_, ?_⟩
  · have hjl : j < sz := by rw [← hl]; exact (List.getElem?_eq_some_iff.1 hj).1
    rw [Nat.add_assoc]
    exact hc _ u (by rw [flatten_get hr.lens (List.getElem?_eq_getElem h1) hjl]; exact hj)
  · intro w' d' cs' hE hrep'
    refine ⟨css.set k cs', fps, [b], rfl, ⟨some ⟨b, o, none⟩, c, by rw [hn]; simp, by simpa using hn1, hn2, .inr ⟨b, o, rfl, rfl, fun j u hj => ?_⟩⟩, by simpa using hr.1, by simpa using hr.2.1, ?_⟩
    · by_cases hjk : j < k * sz ∨ (k + 1) * sz ≤ j
      · rw [flatten_set_out hr.lens hE.len h1 hjk] at hj
        rw [hE.out (o + j) (by rw [Nat.succ_mul] at hjk; omega)]
        exact hc j u hj
      · obtain ⟨i, rfl⟩ : ∃ i, j = k * sz + i := ⟨j - k * sz, by omega⟩
        have hi : i < sz := by rw [Nat.succ_mul] at hjk; omega
        rw [flatten_get (i := k) (cs := cs') (fun cs hcs => by
          rcases List.mem_or_eq_of_mem_set hcs with hcs | rfl
          · exact hr.lens cs hcs
          · exact hE.len) (by rw [List.getElem?_set_self h1]) hi] at hj
        rw [← Nat.add_assoc]
        exact hE.in_ i u hj
    · intro i cs f d hci hfi hdi
      by_cases hik : i = k
      · subst hik
        rw [List.getElem?_set_self h1] at hci
        rw [List.getElem?_set_self hk] at hdi
        injection hci with hci; injection hdi with hdi
        rw [List.getElem?_eq_getElem h2] at hfi
        injection hfi with hfi
        subst hci; subst hdi; subst hfi
        exact ⟨hrep', hE.len⟩
      · rw [List.getElem?_set_ne (fun e => hik e.symm)] at hci hdi
        obtain ⟨a, b'⟩ := hr.2.2 i _ _ _ hci hfi hdi
        refine ⟨hF _ _ _ _ _ a fun x hx => ?_, b'⟩
        have hxf := mem_flatten_of_get hfi x hx
        refine hE.far x (List.mem_append_right _ hxf) (hlt x (List.mem_append_right _ hxf)) (fun e => nd3 b (by simp) x hxf e.symm) (flatten_far nd2 hfi (List.getElem?_eq_getElem h2) hik x hx)

/-- Elements written one behind the other, a running number going on. -/
def mkL {α : Type} (f : α → Int → α) (c : α → Nat) : List α → Int → List α
  | [], _ => []
  | d :: r, k => f d k :: mkL f c r (k + c d)
theorem mkL_len {α : Type} (f : α → Int → α) (c : α → Nat) : ∀ (xs : List α) (k : Int), (mkL f c xs k).length = xs.length
  | [], _ => rfl
  | d :: r, k => by simp [mkL, mkL_len f c r]
theorem mkL_append {α : Type} (f : α → Int → α) (c : α → Nat) : ∀ (xs ys : List α) (k : Int), mkL f c (xs ++ ys) k = mkL f c xs k ++ mkL f c ys (k + ((xs.map c).sum : Nat))
  | [], ys, k => by simp [mkL]
  | d :: r, ys, k => by
    simp only [List.cons_append, mkL, mkL_append f c r ys, List.map_cons, List.sum_cons]
    rw [show k + (c d : Int) + (((r.map c).sum : Nat) : Int) = k + ((c d + (r.map c).sum : Nat) : Int) by omega]
def mkAt {α : Type} (f : α → Int → α) (c : α → Nat) (xs : List α) (k0 : Int) (i : Nat) : List α := mkL f c (xs.take i) k0 ++ xs.drop i
theorem mkAt_len {α : Type} (f : α → Int → α) (c : α → Nat) (xs : List α) (k0 : Int) (i : Nat) : (mkAt f c xs k0 i).length = xs.length := by
  simp only [mkAt, List.length_append, mkL_len, List.length_take, List.length_drop]; omega
theorem mkAt_get {α : Type} (f : α → Int → α) (c : α → Nat) (xs : List α) (k0 : Int) (i : Nat) (h : i < xs.length) (h' : i < (mkAt f c xs k0 i).length) : (mkAt f c xs k0 i)[i] = xs[i] := by
  simp only [mkAt]
  rw [List.getElem_append_right (by rw [mkL_len, List.length_take]; omega)]
  simp [mkL_len, List.length_take, Nat.min_eq_left (Nat.le_of_lt h)]
theorem mkAt_step {α : Type} (f : α → Int → α) (c : α → Nat) (xs : List α) (k0 : Int) (i : Nat) (h : i < xs.length) : (mkAt f c xs k0 i).set i (f xs[i] (k0 + (((xs.take i).map c).sum : Nat))) = mkAt f c xs k0 (i + 1) := by
  simp only [mkAt]
  have hl : (mkL f c (xs.take i) k0).length = i := by rw [mkL_len, List.length_take]; omega
  rw [List.set_append_right _ _ (by omega), hl, Nat.sub_self, List.drop_eq_getElem_cons h, List.set_cons_zero, List.take_succ_eq_append_getElem h, mkL_append]
  simp [mkL]
theorem mkAt_zero {α : Type} (f : α → Int → α) (c : α → Nat) (xs : List α) (k0 : Int) : mkAt f c xs k0 0 = xs := by simp [mkAt, mkL]
theorem mkAt_all {α : Type} (f : α → Int → α) (c : α → Nat) (xs : List α) (k0 : Int) {i : Nat} (h : xs.length ≤ i) : mkAt f c xs k0 i = mkL f c xs k0 := by
  simp [mkAt, List.take_of_length_le h, List.drop_of_length_le h]
theorem mkL_get {α : Type} (f : α → Int → α) (c : α → Nat) : ∀ (xs : List α) (k : Int) (i : Nat) (h : i < xs.length) (h' : i < (mkL f c xs k).length), (mkL f c xs k)[i] = f xs[i] (k + (((xs.take i).map c).sum : Nat))
  | d :: r, k, 0, _, _ => by simp [mkL]
  | d :: r, k, i + 1, h, h' => by
    simp only [mkL, List.getElem_cons_succ, List.take_succ_cons, List.map_cons, List.sum_cons]
    rw [mkL_get f c r (k + c d) i (by simpa using h)]
    rw [show k + (c d : Int) + ((((r.take i).map c).sum : Nat) : Int) = k + ((c d + ((r.take i).map c).sum : Nat) : Int) by omega]

end Go.Proofs.YtpbniieiinhliaaGreat

namespace Go.Proofs.YtpbniieiinhliaaGreat
open Go.RowKit


structure D_Fire where
  g_From : Int
  g_To : Int
deriving DecidableEq

structure D_Glue where
  g_Name : ByteArray
  g_Strength : Int
deriving DecidableEq

structure D_Point where
  g_X : Int
  g_Y : Int
deriving DecidableEq

structure D_SignalCell where
  g_At : D_Point
  g_Tile : Int
  g_On : List Bool
  g_Bound : List Bool
  g_Fired : List Bool
deriving DecidableEq

structure D_SignalEvent where
  g_Kind : Int
  g_At : D_Point
  g_Num : Int
deriving DecidableEq

structure D_SignalTile where
  g_Name : ByteArray
  g_Sides : List Int
  g_On : List Bool
  g_Fires : List D_Fire
deriving DecidableEq

structure D_SignalSet where
  g_Glues : List D_Glue
  g_Tiles : List D_SignalTile
deriving DecidableEq

def enc_Bool (d : Bool) : List Value := [.bool d]
def R_Bool := Flat enc_Bool
theorem R_Bool.framed : Framed R_Bool := Flat.framed _

def S_BoolS := SlOf R_Bool 1
theorem S_BoolS.same {w w' : World} {f : List Nat} {v : Value} {xs} (h : S_BoolS w f v xs) (hs : SameOn f w w') : S_BoolS w' f v xs := SlOf.same R_Bool.framed h hs

theorem S_BoolS.kb {w w' : World} {f : List Nat} {v : Value} {xs} {B : Nat} (h : S_BoolS w f v xs) (hf : Within f 0 B) (hb : Below B w w') : S_BoolS w' f v xs := h.same (SameOn.below hf hb (Nat.le_refl _))

def R_BoolS (w : World) (f : List Nat) (cs : List Value) (d : List Bool) : Prop := ∃ v, cs = [v] ∧ S_BoolS w f v d
theorem R_BoolS.framed : Framed R_BoolS := by
  rintro w w' f cs d ⟨v, hc, h⟩ hs
  exact ⟨v, hc, h.same hs⟩

def enc_Int64 (d : Int) : List Value := [.int .i64 d]
def R_Int64 := Flat enc_Int64
theorem R_Int64.framed : Framed R_Int64 := Flat.framed _

def enc_Fire (d : D_Fire) : List Value := [.int .i64 d.g_From, .int .i64 d.g_To]
def R_Fire := Flat enc_Fire
theorem R_Fire.framed : Framed R_Fire := Flat.framed _

def S_FireS := SlOf R_Fire 2
theorem S_FireS.same {w w' : World} {f : List Nat} {v : Value} {xs} (h : S_FireS w f v xs) (hs : SameOn f w w') : S_FireS w' f v xs := SlOf.same R_Fire.framed h hs

theorem S_FireS.kb {w w' : World} {f : List Nat} {v : Value} {xs} {B : Nat} (h : S_FireS w f v xs) (hf : Within f 0 B) (hb : Below B w w') : S_FireS w' f v xs := h.same (SameOn.below hf hb (Nat.le_refl _))

def R_FireS (w : World) (f : List Nat) (cs : List Value) (d : List D_Fire) : Prop := ∃ v, cs = [v] ∧ S_FireS w f v d
theorem R_FireS.framed : Framed R_FireS := by
  rintro w w' f cs d ⟨v, hc, h⟩ hs
  exact ⟨v, hc, h.same hs⟩

def enc_String (d : ByteArray) : List Value := [.string d]
def R_String := Flat enc_String
theorem R_String.framed : Framed R_String := Flat.framed _

def enc_Glue (d : D_Glue) : List Value := [.string d.g_Name, .int .i64 d.g_Strength]
def R_Glue := Flat enc_Glue
theorem R_Glue.framed : Framed R_Glue := Flat.framed _

def S_GlueS := SlOf R_Glue 2
theorem S_GlueS.same {w w' : World} {f : List Nat} {v : Value} {xs} (h : S_GlueS w f v xs) (hs : SameOn f w w') : S_GlueS w' f v xs := SlOf.same R_Glue.framed h hs

theorem S_GlueS.kb {w w' : World} {f : List Nat} {v : Value} {xs} {B : Nat} (h : S_GlueS w f v xs) (hf : Within f 0 B) (hb : Below B w w') : S_GlueS w' f v xs := h.same (SameOn.below hf hb (Nat.le_refl _))

def R_GlueS (w : World) (f : List Nat) (cs : List Value) (d : List D_Glue) : Prop := ∃ v, cs = [v] ∧ S_GlueS w f v d
theorem R_GlueS.framed : Framed R_GlueS := by
  rintro w w' f cs d ⟨v, hc, h⟩ hs
  exact ⟨v, hc, h.same hs⟩

def S_Int64S := SlOf R_Int64 1
theorem S_Int64S.same {w w' : World} {f : List Nat} {v : Value} {xs} (h : S_Int64S w f v xs) (hs : SameOn f w w') : S_Int64S w' f v xs := SlOf.same R_Int64.framed h hs

theorem S_Int64S.kb {w w' : World} {f : List Nat} {v : Value} {xs} {B : Nat} (h : S_Int64S w f v xs) (hf : Within f 0 B) (hb : Below B w w') : S_Int64S w' f v xs := h.same (SameOn.below hf hb (Nat.le_refl _))

def R_Int64S (w : World) (f : List Nat) (cs : List Value) (d : List Int) : Prop := ∃ v, cs = [v] ∧ S_Int64S w f v d
theorem R_Int64S.framed : Framed R_Int64S := by
  rintro w w' f cs d ⟨v, hc, h⟩ hs
  exact ⟨v, hc, h.same hs⟩

def enc_Point (d : D_Point) : List Value := [.int .i64 d.g_X, .int .i64 d.g_Y]
def R_Point := Flat enc_Point
theorem R_Point.framed : Framed R_Point := Flat.framed _

def R_SignalCell (w : World) (f : List Nat) (cs : List Value) (d : D_SignalCell) : Prop :=
  ∃ v3 v4 v5 f3 f4 f5, f = f3 ++ (f4 ++ (f5)) ∧ cs = [.int .i64 d.g_At.g_X, .int .i64 d.g_At.g_Y, .int .i64 d.g_Tile, v3, v4, v5] ∧ S_BoolS w f3 v3 d.g_On ∧ S_BoolS w f4 v4 d.g_Bound ∧ S_BoolS w f5 v5 d.g_Fired

theorem R_SignalCell.framed : Framed R_SignalCell := by
  rintro w w' f cs d ⟨v3, v4, v5, f3, f4, f5, rfl, hc, h3, h4, h5⟩ hs
  exact ⟨v3, v4, v5, f3, f4, f5, rfl, hc, h3.same (hs.left), h4.same (hs.right.left), h5.same (hs.right.right)⟩

def S_SignalCellS := SlOf R_SignalCell 6
theorem S_SignalCellS.same {w w' : World} {f : List Nat} {v : Value} {xs} (h : S_SignalCellS w f v xs) (hs : SameOn f w w') : S_SignalCellS w' f v xs := SlOf.same R_SignalCell.framed h hs

theorem S_SignalCellS.kb {w w' : World} {f : List Nat} {v : Value} {xs} {B : Nat} (h : S_SignalCellS w f v xs) (hf : Within f 0 B) (hb : Below B w w') : S_SignalCellS w' f v xs := h.same (SameOn.below hf hb (Nat.le_refl _))

def R_SignalCellS (w : World) (f : List Nat) (cs : List Value) (d : List D_SignalCell) : Prop := ∃ v, cs = [v] ∧ S_SignalCellS w f v d
theorem R_SignalCellS.framed : Framed R_SignalCellS := by
  rintro w w' f cs d ⟨v, hc, h⟩ hs
  exact ⟨v, hc, h.same hs⟩

def enc_SignalEvent (d : D_SignalEvent) : List Value := [.int .i64 d.g_Kind, .int .i64 d.g_At.g_X, .int .i64 d.g_At.g_Y, .int .i64 d.g_Num]
def R_SignalEvent := Flat enc_SignalEvent
theorem R_SignalEvent.framed : Framed R_SignalEvent := Flat.framed _

def S_SignalEventS := SlOf R_SignalEvent 4
theorem S_SignalEventS.same {w w' : World} {f : List Nat} {v : Value} {xs} (h : S_SignalEventS w f v xs) (hs : SameOn f w w') : S_SignalEventS w' f v xs := SlOf.same R_SignalEvent.framed h hs

theorem S_SignalEventS.kb {w w' : World} {f : List Nat} {v : Value} {xs} {B : Nat} (h : S_SignalEventS w f v xs) (hf : Within f 0 B) (hb : Below B w w') : S_SignalEventS w' f v xs := h.same (SameOn.below hf hb (Nat.le_refl _))

def R_SignalEventS (w : World) (f : List Nat) (cs : List Value) (d : List D_SignalEvent) : Prop := ∃ v, cs = [v] ∧ S_SignalEventS w f v d
theorem R_SignalEventS.framed : Framed R_SignalEventS := by
  rintro w w' f cs d ⟨v, hc, h⟩ hs
  exact ⟨v, hc, h.same hs⟩

def R_SignalTile (w : World) (f : List Nat) (cs : List Value) (d : D_SignalTile) : Prop :=
  ∃ v1 v2 v3 f1 f2 f3, f = f1 ++ (f2 ++ (f3)) ∧ cs = [.string d.g_Name, v1, v2, v3] ∧ S_Int64S w f1 v1 d.g_Sides ∧ S_BoolS w f2 v2 d.g_On ∧ S_FireS w f3 v3 d.g_Fires

theorem R_SignalTile.framed : Framed R_SignalTile := by
  rintro w w' f cs d ⟨v1, v2, v3, f1, f2, f3, rfl, hc, h1, h2, h3⟩ hs
  exact ⟨v1, v2, v3, f1, f2, f3, rfl, hc, h1.same (hs.left), h2.same (hs.right.left), h3.same (hs.right.right)⟩

def S_SignalTileS := SlOf R_SignalTile 4
theorem S_SignalTileS.same {w w' : World} {f : List Nat} {v : Value} {xs} (h : S_SignalTileS w f v xs) (hs : SameOn f w w') : S_SignalTileS w' f v xs := SlOf.same R_SignalTile.framed h hs

theorem S_SignalTileS.kb {w w' : World} {f : List Nat} {v : Value} {xs} {B : Nat} (h : S_SignalTileS w f v xs) (hf : Within f 0 B) (hb : Below B w w') : S_SignalTileS w' f v xs := h.same (SameOn.below hf hb (Nat.le_refl _))

def R_SignalTileS (w : World) (f : List Nat) (cs : List Value) (d : List D_SignalTile) : Prop := ∃ v, cs = [v] ∧ S_SignalTileS w f v d
theorem R_SignalTileS.framed : Framed R_SignalTileS := by
  rintro w w' f cs d ⟨v, hc, h⟩ hs
  exact ⟨v, hc, h.same hs⟩

def R_SignalSet (w : World) (f : List Nat) (cs : List Value) (d : D_SignalSet) : Prop :=
  ∃ v0 v1 f0 f1, f = f0 ++ (f1) ∧ cs = [v0, v1] ∧ S_GlueS w f0 v0 d.g_Glues ∧ S_SignalTileS w f1 v1 d.g_Tiles

theorem R_SignalSet.framed : Framed R_SignalSet := by
  rintro w w' f cs d ⟨v0, v1, f0, f1, rfl, hc, h0, h1⟩ hs
  exact ⟨v0, v1, f0, f1, rfl, hc, h0.same (hs.left), h1.same (hs.right)⟩

theorem S_BoolS.at_ {w : World} {f : List Nat} {A : Option Addr} {n c : Nat} {xs : List Bool} (h : S_BoolS w f (.slice A n c) xs) (k : Nat) (hk : k < xs.length) : ∃ b o, A = some ⟨b, o, none⟩ ∧ b ∈ f ∧ w.cell? ⟨b, o + k, none⟩ = some (.bool xs[k]) := by
  obtain ⟨b, o, cs, g, h1, h2, _, ⟨_, rfl⟩, _, hc⟩ := SlOf.at_ h k hk
  exact ⟨b, o, h1, h2, by simpa using hc 0 _ rfl⟩

theorem S_FireS.at_ {w : World} {f : List Nat} {A : Option Addr} {n c : Nat} {xs : List D_Fire} (h : S_FireS w f (.slice A n c) xs) (k : Nat) (hk : k < xs.length) : ∃ b o, A = some ⟨b, o, none⟩ ∧ b ∈ f ∧ w.cell? ⟨b, o + k * 2, none⟩ = some (.int .i64 xs[k].g_From) ∧ w.cell? ⟨b, o + k * 2 + 1, none⟩ = some (.int .i64 xs[k].g_To) := by
  obtain ⟨b, o, cs, g, h1, h2, _, ⟨_, rfl⟩, _, hc⟩ := SlOf.at_ h k hk
  exact ⟨b, o, h1, h2, by simpa using hc 0 _ rfl, by simpa [Nat.add_assoc] using hc 1 _ rfl⟩

theorem S_GlueS.at_ {w : World} {f : List Nat} {A : Option Addr} {n c : Nat} {xs : List D_Glue} (h : S_GlueS w f (.slice A n c) xs) (k : Nat) (hk : k < xs.length) : ∃ b o, A = some ⟨b, o, none⟩ ∧ b ∈ f ∧ w.cell? ⟨b, o + k * 2, none⟩ = some (.string xs[k].g_Name) ∧ w.cell? ⟨b, o + k * 2 + 1, none⟩ = some (.int .i64 xs[k].g_Strength) := by
  obtain ⟨b, o, cs, g, h1, h2, _, ⟨_, rfl⟩, _, hc⟩ := SlOf.at_ h k hk
  exact ⟨b, o, h1, h2, by simpa using hc 0 _ rfl, by simpa [Nat.add_assoc] using hc 1 _ rfl⟩

theorem S_Int64S.at_ {w : World} {f : List Nat} {A : Option Addr} {n c : Nat} {xs : List Int} (h : S_Int64S w f (.slice A n c) xs) (k : Nat) (hk : k < xs.length) : ∃ b o, A = some ⟨b, o, none⟩ ∧ b ∈ f ∧ w.cell? ⟨b, o + k, none⟩ = some (.int .i64 xs[k]) := by
  obtain ⟨b, o, cs, g, h1, h2, _, ⟨_, rfl⟩, _, hc⟩ := SlOf.at_ h k hk
  exact ⟨b, o, h1, h2, by simpa using hc 0 _ rfl⟩

theorem S_SignalCellS.at_ {w : World} {f : List Nat} {A : Option Addr} {n c : Nat} {xs : List D_SignalCell} (h : S_SignalCellS w f (.slice A n c) xs) (k : Nat) (hk : k < xs.length) : ∃ b o A3 c3 f3 A4 c4 f4 A5 c5 f5, A = some ⟨b, o, none⟩ ∧ b ∈ f ∧ (∀ x ∈ f3, x ∈ f) ∧ (∀ x ∈ f4, x ∈ f) ∧ (∀ x ∈ f5, x ∈ f) ∧ w.cell? ⟨b, o + k * 6, none⟩ = some (.int .i64 xs[k].g_At.g_X) ∧ w.cell? ⟨b, o + k * 6 + 1, none⟩ = some (.int .i64 xs[k].g_At.g_Y) ∧ w.cell? ⟨b, o + k * 6 + 2, none⟩ = some (.int .i64 xs[k].g_Tile) ∧ w.cell? ⟨b, o + k * 6 + 3, none⟩ = some (.slice A3 xs[k].g_On.length c3) ∧ w.cell? ⟨b, o + k * 6 + 4, none⟩ = some (.slice A4 xs[k].g_Bound.length c4) ∧ w.cell? ⟨b, o + k * 6 + 5, none⟩ = some (.slice A5 xs[k].g_Fired.length c5) ∧ S_BoolS w f3 (.slice A3 xs[k].g_On.length c3) xs[k].g_On ∧ S_BoolS w f4 (.slice A4 xs[k].g_Bound.length c4) xs[k].g_Bound ∧ S_BoolS w f5 (.slice A5 xs[k].g_Fired.length c5) xs[k].g_Fired := by
  obtain ⟨b, o, cs, g, h1, h2, hg, ⟨v3, v4, v5, f3, f4, f5, rfl, rfl, s3, s4, s5⟩, _, hc⟩ := SlOf.at_ h k hk
  obtain ⟨A3, c3, rfl, _, _⟩ := SlOf.len s3
  obtain ⟨A4, c4, rfl, _, _⟩ := SlOf.len s4
  obtain ⟨A5, c5, rfl, _, _⟩ := SlOf.len s5
  exact ⟨b, o, A3, c3, f3, A4, c4, f4, A5, c5, f5, h1, h2, fun x hx => hg x (by simp [hx]), fun x hx => hg x (by simp [hx]), fun x hx => hg x (by simp [hx]), by simpa using hc 0 _ rfl, by simpa [Nat.add_assoc] using hc 1 _ rfl, by simpa [Nat.add_assoc] using hc 2 _ rfl, by simpa [Nat.add_assoc] using hc 3 _ rfl, by simpa [Nat.add_assoc] using hc 4 _ rfl, by simpa [Nat.add_assoc] using hc 5 _ rfl, s3, s4, s5⟩

theorem S_SignalEventS.at_ {w : World} {f : List Nat} {A : Option Addr} {n c : Nat} {xs : List D_SignalEvent} (h : S_SignalEventS w f (.slice A n c) xs) (k : Nat) (hk : k < xs.length) : ∃ b o, A = some ⟨b, o, none⟩ ∧ b ∈ f ∧ w.cell? ⟨b, o + k * 4, none⟩ = some (.int .i64 xs[k].g_Kind) ∧ w.cell? ⟨b, o + k * 4 + 1, none⟩ = some (.int .i64 xs[k].g_At.g_X) ∧ w.cell? ⟨b, o + k * 4 + 2, none⟩ = some (.int .i64 xs[k].g_At.g_Y) ∧ w.cell? ⟨b, o + k * 4 + 3, none⟩ = some (.int .i64 xs[k].g_Num) := by
  obtain ⟨b, o, cs, g, h1, h2, _, ⟨_, rfl⟩, _, hc⟩ := SlOf.at_ h k hk
  exact ⟨b, o, h1, h2, by simpa using hc 0 _ rfl, by simpa [Nat.add_assoc] using hc 1 _ rfl, by simpa [Nat.add_assoc] using hc 2 _ rfl, by simpa [Nat.add_assoc] using hc 3 _ rfl⟩

theorem S_SignalTileS.at_ {w : World} {f : List Nat} {A : Option Addr} {n c : Nat} {xs : List D_SignalTile} (h : S_SignalTileS w f (.slice A n c) xs) (k : Nat) (hk : k < xs.length) : ∃ b o A1 c1 f1 A2 c2 f2 A3 c3 f3, A = some ⟨b, o, none⟩ ∧ b ∈ f ∧ (∀ x ∈ f1, x ∈ f) ∧ (∀ x ∈ f2, x ∈ f) ∧ (∀ x ∈ f3, x ∈ f) ∧ w.cell? ⟨b, o + k * 4, none⟩ = some (.string xs[k].g_Name) ∧ w.cell? ⟨b, o + k * 4 + 1, none⟩ = some (.slice A1 xs[k].g_Sides.length c1) ∧ w.cell? ⟨b, o + k * 4 + 2, none⟩ = some (.slice A2 xs[k].g_On.length c2) ∧ w.cell? ⟨b, o + k * 4 + 3, none⟩ = some (.slice A3 xs[k].g_Fires.length c3) ∧ S_Int64S w f1 (.slice A1 xs[k].g_Sides.length c1) xs[k].g_Sides ∧ S_BoolS w f2 (.slice A2 xs[k].g_On.length c2) xs[k].g_On ∧ S_FireS w f3 (.slice A3 xs[k].g_Fires.length c3) xs[k].g_Fires := by
  obtain ⟨b, o, cs, g, h1, h2, hg, ⟨v1, v2, v3, f1, f2, f3, rfl, rfl, s1, s2, s3⟩, _, hc⟩ := SlOf.at_ h k hk
  obtain ⟨A1, c1, rfl, _, _⟩ := SlOf.len s1
  obtain ⟨A2, c2, rfl, _, _⟩ := SlOf.len s2
  obtain ⟨A3, c3, rfl, _, _⟩ := SlOf.len s3
  exact ⟨b, o, A1, c1, f1, A2, c2, f2, A3, c3, f3, h1, h2, fun x hx => hg x (by simp [hx]), fun x hx => hg x (by simp [hx]), fun x hx => hg x (by simp [hx]), by simpa using hc 0 _ rfl, by simpa [Nat.add_assoc] using hc 1 _ rfl, by simpa [Nat.add_assoc] using hc 2 _ rfl, by simpa [Nat.add_assoc] using hc 3 _ rfl, s1, s2, s3⟩


end Go.Proofs.YtpbniieiinhliaaGreat
