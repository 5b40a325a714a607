/- Lists of one's own, told as slices of the world. -/
import Derived.Test.YtpbniieiinhliaaGreatPyH
import Derived.Test.YtpbniieiinhliaaGreatPyN
import Derived.Test.YtpbniieiinhliaaGreatPyS
import Derived.Test.YtpbniieiinhliaaGreatPyE
import Derived.Test.YtpbniieiinhliaaGreatPyF
import Derived.Test.YtpbniieiinhliaaGreatPyD
import Derived.Test.YtpbniieiinhliaaGreatChecked
import Derived.ProofKit
import Derived.Deep.Slices
import Derived.ChangeSame
import Derived.Test.YtpbniieiinhliaaGreatPyL
import Derived.Deep.RegionHeld3
import Derived.StillTailTactics
set_option linter.unusedVariables false
set_option linter.unusedSimpArgs false
namespace Go.Proofs.YtpbniieiinhliaaGreat.V
open Go.RowKit

variable {P : Program} {w w' : World} {D : Nat → Prop} {ι : Names} {hs : Nat} {g : Rows}

def blkOf (ι : Names) (i : Id) : Nat := match ι i with
  | some B => B.b
  | none => 0
theorem blkOf_eq {i : Id} {B : Blk} (h : ι i = some B) : blkOf ι i = B.b := by simp [blkOf, h]

theorem scal_rep {a : AV} {u v : Value} (h : scal a = some u) (hr : Rep P w D ι a v) : v = u := by
  cases a with
  | int k n => simp [scal] at h; subst h; exact rep_int hr
  | bool b => simp [scal] at h; subst h; exact rep_bool hr
  | str s => simp [scal] at h; subst h; exact rep_str hr
  | _ => simp [scal] at h

theorem ol_slof {α : Type} {e : α → List AV} {enc : α → List Value} {sz : Nat} {a : AV} {v : Value} {xs : List α} {ids : List Id} (S : Sim P hs D ι g w) (h : OL e sz g a xs ids) (hr : Rep P w D ι a v) (hE : FlatE e enc) (hz : ∀ x, (e x).length = sz) (hs0 : 0 < sz) :
    SlOf (Flat enc) sz w (ids.map (blkOf ι)) v xs := by
  have hzE : ∀ x, (enc x).length = sz := fun x => by rw [← hE.len]; exact hz x
  refine SlOf.mk_flat (fun d _ => hzE d) ?_
  rcases h with ⟨id, rfl, hg, rfl⟩ | ⟨rfl, rfl, rfl⟩
  · obtain ⟨o, cap, B, rfl, hB, h1, h2, h3, h4⟩ := rep_own hr
    obtain ⟨B', hB', R, _, _⟩ := S.row id _ hg
    rw [hB] at hB'; injection hB' with hB'; subst hB'
    refine ⟨_, cap, rfl, h1, h4, .inr ⟨B.b, o, by simp [blkOf_eq hB], rfl, fun j u hj => ?_⟩⟩
    have hBs : B.sz = sz := R.sz
    have hjl : j < xs.length * sz := by
      have := (List.getElem?_eq_some_iff.1 hj).1
      rwa [flatMap_len (k := sz) hzE] at this
    have hx0 : 0 < xs.length := by
      rcases Nat.eq_zero_or_pos xs.length with h | h
      · rw [h] at hjl; simp at hjl
      · exact h
    have ho : o = 0 := by
      rcases h2 with h | h
      · omega
      · simpa using h
    subst ho
    have hi : j / sz < xs.length := (Nat.div_lt_iff_lt_mul hs0).2 hjl
    have hm : j % sz < sz := Nat.mod_lt _ hs0
    have hje : j = (j / sz) * sz + j % sz := by rw [Nat.mul_comm]; exact (Nat.div_add_mod j sz).symm
    have hl : j % sz < (e xs[j / sz]).length := by rw [hz]; exact hm
    obtain ⟨v, hv1, hv2⟩ := R.at_ (j / sz) (j % sz) (e xs[j / sz]) (e xs[j / sz])[j % sz] (by simp [hi]) (List.getElem?_eq_getElem hl)
    obtain ⟨u', hu', hsc⟩ := hE.get (x := xs[j / sz]) (j := j % sz) (List.getElem?_eq_getElem hl)
    rw [List.flatMap_def, hje, flatten_get (sz := sz) (fun cs hcs => by obtain ⟨x, _, rfl⟩ := List.mem_map.1 hcs; exact hzE x) (i := j / sz) (cs := enc xs[j / sz]) (by simp [hi]) hm, hu'] at hj
    injection hj with hj
    subst hj
    rw [← scal_rep hsc hv2, Nat.zero_add, hje]
    have : ((j / sz) * sz + j % sz) = j := hje.symm
    exact hv1
  · obtain ⟨A, c, rfl, h1, h2, _⟩ := rep_sl hr
    exact ⟨A, c, rfl, h1, h2, .inl ⟨rfl, rfl⟩⟩

theorem RowsN.lists {α : Type} {R : ElO α} {rows : List (List AV)} {xs : List α} {ids : List Id} (h : RowsN R g rows xs ids) : ∃ idl : List (List Id), idl.length = xs.length ∧ idl.flatten = ids ∧ ∀ (k : Nat) (cs : List AV) (x : α) (i : List Id), rows[k]? = some cs → xs[k]? = some x → idl[k]? = some i → R g cs x i := by
  induction h with
  | nil => exact ⟨[], rfl, rfl, fun k cs x i h => by simp at h⟩
  | cons h1 _ ih =>
    rename_i cs0 x0 j1 rs xs' j2 h2
    obtain ⟨idl, l1, l2, l3⟩ := ih
    refine ⟨j1 :: idl, by simp [l1], by simp [l2], fun k cs x i a b c => ?_⟩
    cases k with
    | zero => simp at a b c; subst a; subst b; subst c; exact h1
    | succ k => exact l3 k cs x i (by simpa using a) (by simpa using b) (by simpa using c)

theorem own_slof {α : Type} {R : ElO α} {sz : Nat} {rep : World → List Nat → List Value → α → Prop} {a : AV} {v : Value} {xs : List α} {ids : List Id} (ok : ElOk R sz) (S : Sim P hs D ι g w) (h : OwnN R sz g a xs ids) (hr : Rep P w D ι a v)
    (hel : ∀ (cs : List AV) (x : α) (i : List Id) (vs : List Value), R g cs x i → vs.length = sz → (∀ (j : Nat) (b : AV), cs[j]? = some b → ∃ u, vs[j]? = some u ∧ Rep P w D ι b u) → rep w (i.map (blkOf ι)) vs x) : SlOf rep sz w (ids.map (blkOf ι)) v xs := by
  rcases h with ⟨rfl, rfl, rfl⟩ | ⟨o, rows, is, rfl, hg, hR, rfl⟩
  · rw [rep_nils hr]; exact SlOf.nil _ _ _
  · obtain ⟨off, cap, B, rfl, hB, h1, h2, h3, h4⟩ := rep_own hr
    obtain ⟨B', hB', Rw, _, _⟩ := S.row o _ hg
    rw [hB] at hB'; injection hB' with hB'; subst hB'
    have hBs : B.sz = sz := Rw.sz
    obtain ⟨idl, l1, l2, l3⟩ := hR.lists
    have hrl := hR.len
    let val : Nat → Nat → Value := fun k j => (w.cell? ⟨B.b, k * sz + j, none⟩).getD Go.undef
    refine ⟨(List.range xs.length).map fun k => (List.range sz).map (val k), idl.map (List.map (blkOf ι)), [B.b], ?_, ⟨_, cap, rfl, h1, h4, .inr ⟨B.b, off, rfl, rfl, fun j u hj => ?_⟩⟩, by simp, by simp [l1], fun k cs f d hcs hf hd => ?_⟩
    · rw [List.map_cons, blkOf_eq hB, ← l2, List.map_flatten]; rfl
    · have hlen : ∀ cs ∈ (List.range xs.length).map fun k => (List.range sz).map (val k), cs.length = sz := fun cs hcs => by
        obtain ⟨i, _, rfl⟩ := List.mem_map.1 hcs; simp
      have hjl : j < xs.length * sz := by
        have := (List.getElem?_eq_some_iff.1 hj).1
        rw [flatten_len hlen] at this; simpa using this
      have hs0 : 0 < sz := by
        rcases Nat.eq_zero_or_pos sz with h | h
        · rw [h] at hjl; simp at hjl
        · exact h
      have hi : j / sz < xs.length := (Nat.div_lt_iff_lt_mul hs0).2 hjl
      have hm : j % sz < sz := Nat.mod_lt _ hs0
      have hje : j = (j / sz) * sz + j % sz := by rw [Nat.mul_comm]; exact (Nat.div_add_mod j sz).symm
      have hx0 : 0 < xs.length := Nat.lt_of_le_of_lt (Nat.zero_le _) hi
      have ho : off = 0 := by
        rcases h2 with h | h
        · omega
        · simpa using h
      subst ho
      rw [hje, flatten_get hlen (i := j / sz) (cs := (List.range sz).map (val (j / sz))) (by simp [hi]) hm] at hj
      simp [hm] at hj
      have hir : j / sz < rows.length := by rw [hrl]; exact hi
      have hcsl : rows[j / sz].length = sz := Rw.len _ (List.getElem_mem hir)
      have hcm : j % sz < rows[j / sz].length := by rw [hcsl]; exact hm
      obtain ⟨v, hv1, _⟩ := Rw.at_ (j / sz) (j % sz) rows[j / sz] (rows[j / sz][j % sz]'hcm) (List.getElem?_eq_getElem hir) (List.getElem?_eq_getElem hcm)
      have hv1' : w.cell? ⟨B.b, (j / sz) * sz + j % sz, none⟩ = some v := hv1
      rw [Nat.zero_add, hje, hv1']
      simp only [val, hv1', Option.getD_some] at hj
      rw [hj]
    · have hk : k < xs.length := (List.getElem?_eq_some_iff.1 hd).1
      simp [hk] at hcs
      subst hcs
      rw [List.getElem?_map, Option.map_eq_some_iff] at hf
      obtain ⟨i, hi, rfl⟩ := hf
      have hkr : k < rows.length := by rw [hrl]; exact hk
      refine ⟨hel rows[k] d i _ (l3 k _ d i (List.getElem?_eq_getElem hkr) hd hi) (by simp) fun j b hb => ?_, by simp⟩
      obtain ⟨v, hv1, hv2⟩ := Rw.at_ k j rows[k] b (List.getElem?_eq_getElem hkr) hb
      have hjl : j < sz := by
        have := (List.getElem?_eq_some_iff.1 hb).1
        rwa [Rw.len _ (List.getElem_mem hkr)] at this
      refine ⟨val k j, by simp [hjl], ?_⟩
      have hv1' : w.cell? ⟨B.b, k * sz + j, none⟩ = some v := hv1
      simp only [val, hv1', Option.getD_some]; exact hv2

theorem ids_fresh {w0 : World} {ids : List Id} (S : Sim P w0.heap.size D ι g w) (hl : ∀ i ∈ ids, ∃ r, g i = some r ∧ r.w = true) (hnd : ids.Nodup) : Fresh w0 w (ids.map (blkOf ι)) := by
  have one : ∀ i ∈ ids, ∃ r B, g i = some r ∧ r.w = true ∧ ι i = some B ∧ blkOf ι i = B.b ∧ w0.heap.size ≤ B.b ∧ ∃ cs T, w.heap[B.b]? = some (.cells cs T (0, 0)) := fun i hi => by
    obtain ⟨r, h1, h2⟩ := hl i hi
    obtain ⟨B, hB, R, k1, _⟩ := S.row i r h1
    obtain ⟨cs, T, h3, _⟩ := R.blk
    exact ⟨r, B, h1, h2, hB, blkOf_eq hB, k1 h2, cs, T, h3⟩
  refine ⟨fun b hb => ?_, ?_, fun b hb => ?_⟩
  · obtain ⟨i, hi, rfl⟩ := List.mem_map.1 hb
    obtain ⟨r, B, _, _, _, e, h1, cs, T, h2⟩ := one i hi
    rw [e]; exact ⟨h1, (Array.getElem?_eq_some_iff.1 h2).1⟩
  · rw [List.Nodup, List.pairwise_map]
    refine hnd.imp_of_mem fun hx hy hne he => hne ?_
    rename_i x y
    obtain ⟨r, B, a1, a2, a3, a4, _⟩ := one x hx
    obtain ⟨r', B', b1, b2, b3, b4, _⟩ := one y hy
    exact S.inj x y r r' B B' a1 b1 a2 a3 b3 (by rw [← a4, ← b4]; exact he)
  · obtain ⟨i, hi, rfl⟩ := List.mem_map.1 hb
    obtain ⟨r, B, _, _, _, e, h1, cs, T, h2⟩ := one i hi
    rw [e]; exact ⟨cs, T, h2⟩

/-- Cells of one's own, in the world. -/
theorem cells_slof {a : AV} {v : Value} {xs : List D_SignalCell} {ids : List Id} (S : Sim P hs D ι g w) (h : CellsO g a xs ids) (hr : Rep P w D ι a v) : S_SignalCellS w (ids.map (blkOf ι)) v xs := by
  refine own_slof cellOk S h hr fun cs x i vs hc hvl hrep => ?_
  obtain ⟨p, q, f, i1, i2, i3, rfl, h1, h2, h3, rfl⟩ := hc
  obtain ⟨u0, e0, r0⟩ := hrep 0 _ rfl
  obtain ⟨u1, e1, r1⟩ := hrep 1 _ rfl
  obtain ⟨u2, e2, r2⟩ := hrep 2 _ rfl
  obtain ⟨u3, e3, r3⟩ := hrep 3 _ rfl
  obtain ⟨u4, e4, r4⟩ := hrep 4 _ rfl
  obtain ⟨u5, e5, r5⟩ := hrep 5 _ rfl
  have := rep_int r0; subst this
  have := rep_int r1; subst this
  have := rep_int r2; subst this
  match vs, hvl, e0, e1, e2, e3, e4, e5 with
  | [a0, a1, a2, a3, a4, a5], _, e0, e1, e2, e3, e4, e5 =>
    simp at e0 e1 e2 e3 e4 e5
    subst e0 e1 e2 e3 e4 e5
    have s1 := ol_slof S h1 r3 flatBool (fun _ => rfl) (by decide)
    have s2 := ol_slof S h2 r4 flatBool (fun _ => rfl) (by decide)
    have s3 := ol_slof S h3 r5 flatBool (fun _ => rfl) (by decide)
    exact ⟨_, _, _, _, _, _, by rw [List.map_append, List.map_append], rfl, s1, s2, s3⟩

end Go.Proofs.YtpbniieiinhliaaGreat.V

namespace Go.Proofs.YtpbniieiinhliaaGreat.V
open Go.RowKit

variable {P : Program} {w w' : World} {D : Nat → Prop} {ι : Names}

theorem boolS_imm {f : List Nat} {v : Value} {xs : List Bool} (h : S_BoolS w f v xs) (hD : ∀ b ∈ f, D b) : Imm P w D (.sl (xs.map eBool)) v := flat_imm flatBool (fun _ => rfl) h hD
theorem cells_imm {f : List Nat} {v : Value} {xs : List D_SignalCell} (h : S_SignalCellS w f v xs) (hD : ∀ b ∈ f, D b) : Imm P w D (.sl (xs.map eCell)) v :=
  slof_imm h hD (fun _ _ => rfl) (fun x _ a ha => by simp [eCell] at ha; rcases ha with rfl | rfl | rfl | rfl | rfl | rfl <;> rfl) fun x _ f' cs hr hf => by
    obtain ⟨v3, v4, v5, f3, f4, f5, rfl, rfl, h3, h4, h5⟩ := hr
    have d3 : ∀ b ∈ f3, D b := fun b hb => hf b (by simp [hb])
    have d4 : ∀ b ∈ f4, D b := fun b hb => hf b (by simp [hb])
    have d5 : ∀ b ∈ f5, D b := fun b hb => hf b (by simp [hb])
    intro j a ha
    match j, ha with
    | 0, ha => simp [eCell] at ha; subst ha; exact ⟨_, rfl, .int _ _⟩
    | 1, ha => simp [eCell] at ha; subst ha; exact ⟨_, rfl, .int _ _⟩
    | 2, ha => simp [eCell] at ha; subst ha; exact ⟨_, rfl, .int _ _⟩
    | 3, ha => simp [eCell] at ha; subst ha; exact ⟨_, rfl, boolS_imm h3 d3⟩
    | 4, ha => simp [eCell] at ha; subst ha; exact ⟨_, rfl, boolS_imm h4 d4⟩
    | 5, ha => simp [eCell] at ha; subst ha; exact ⟨_, rfl, boolS_imm h5 d5⟩
    | j + 6, ha => simp [eCell] at ha
theorem tiles_imm {f : List Nat} {v : Value} {xs : List D_SignalTile} (h : S_SignalTileS w f v xs) (hD : ∀ b ∈ f, D b) : Imm P w D (.sl (xs.map eTile)) v :=
  slof_imm h hD (fun _ _ => rfl) (fun x _ a ha => by simp [eTile] at ha; rcases ha with rfl | rfl | rfl | rfl <;> rfl) fun x _ f' cs hr hf => by
    obtain ⟨v1, v2, v3, f1, f2, f3, rfl, rfl, h1, h2, h3⟩ := hr
    have d1 : ∀ b ∈ f1, D b := fun b hb => hf b (by simp [hb])
    have d2 : ∀ b ∈ f2, D b := fun b hb => hf b (by simp [hb])
    have d3 : ∀ b ∈ f3, D b := fun b hb => hf b (by simp [hb])
    intro j a ha
    match j, ha with
    | 0, ha => simp [eTile] at ha; subst ha; exact ⟨_, rfl, .str _⟩
    | 1, ha => simp [eTile] at ha; subst ha; exact ⟨_, rfl, flat_imm flatInt (fun _ => rfl) h1 d1⟩
    | 2, ha => simp [eTile] at ha; subst ha; exact ⟨_, rfl, boolS_imm h2 d2⟩
    | 3, ha => simp [eTile] at ha; subst ha; exact ⟨_, rfl, flat_imm flatFire (fun _ => rfl) h3 d3⟩
    | j + 4, ha => simp [eTile] at ha
theorem set_imm {f0 f1 : List Nat} {v0 v1 : Value} {d : D_SignalSet} (h0 : S_GlueS w f0 v0 d.g_Glues) (h1 : S_SignalTileS w f1 v1 d.g_Tiles) (d0 : ∀ b ∈ f0, D b) (d1 : ∀ b ∈ f1, D b) : Imm P w D (.agg (eSet d)) (.agg #[v0, v1]) := by
  refine .agg _ _ (fun j => if j = 0 then v0 else v1) rfl (fun a ha => by simp [eSet] at ha; rcases ha with rfl | rfl <;> rfl) (fun j hj => ?_) (fun j a ha => ?_)
  · have : j = 0 ∨ j = 1 := by simp [eSet] at hj; omega
    rcases this with rfl | rfl <;> rfl
  · match j, ha with
    | 0, ha => simp [eSet] at ha; subst ha; exact flat_imm flatGlue (fun _ => rfl) h0 d0
    | 1, ha => simp [eSet] at ha; subst ha; exact tiles_imm h1 d1
    | j + 2, ha => simp [eSet] at ha

end Go.Proofs.YtpbniieiinhliaaGreat.V

namespace Go.Proofs.YtpbniieiinhliaaGreat
open Go.ChangeShapes Go.WideShapes Go.ChangeAt Go.RowKit Go.Deep

section
variable {H : Type} {enc : TypeId × Value → H} {P : Program} {w : World}

theorem SlOf.mk_at {α : Type} {rep : World → List Nat → List Value → α → Prop} {sz : Nat} {w : World} {b o len cap : Nat} (css : Nat → List Value) (fs : Nat → List Nat) (ds : Nat → α) (hc : len ≤ cap) (hm : cap ≤ maxLen)
    (hl : ∀ i, i < len → (css i).length = sz) (hr : ∀ i, i < len → rep w (fs i) (css i) (ds i)) (hat : ∀ i, i < len → ∀ j u, (css i)[j]? = some u → w.cell? ⟨b, o + (i * sz + j), none⟩ = some u) :
    SlOf rep sz w ([b] ++ ((List.range len).map fs).flatten) (.slice (some ⟨b, o, none⟩) len cap) ((List.range len).map ds) := by
  refine ⟨(List.range len).map css, (List.range len).map fs, [b], rfl, ⟨some ⟨b, o, none⟩, cap, by simp, by simpa using hc, hm, .inr ⟨b, o, rfl, rfl, fun j u hj => ?_⟩⟩, by simp, by simp, fun i cs f d h1 h2 h3 => ?_⟩
  · have hlen : ∀ cs ∈ (List.range len).map css, cs.length = sz := fun cs hcs => by
      obtain ⟨i, hi, rfl⟩ := List.mem_map.1 hcs
      exact hl i (List.mem_range.1 hi)
    have hjl := (List.getElem?_eq_some_iff.1 hj).1
    have hfl : ((List.range len).map css).flatten.length = len * sz := by
      rw [List.length_flatten, List.map_map]
      have : ∀ (l : List Nat), (∀ i ∈ l, i < len) → (l.map (List.length ∘ css)).sum = l.length * sz := by
        intro l
        induction l with
        | nil => intro _; simp
        | cons a l ih => intro h; rw [List.map_cons, List.sum_cons, ih fun i hi => h i (List.mem_cons_of_mem _ hi)]; simp only [Function.comp, hl a (h a (by simp)), List.length_cons, Nat.add_mul]; omega
      rw [this _ fun i hi => List.mem_range.1 hi, List.length_range]
    rw [hfl] at hjl
    have hs0 : 0 < sz := by
      rcases Nat.eq_zero_or_pos sz with h | h
      · subst h; simp at hjl
      · exact h
    have hi : j / sz < len := (Nat.div_lt_iff_lt_mul hs0).2 hjl
    have hm2 : j % sz < sz := Nat.mod_lt _ hs0
    have hje : j = (j / sz) * sz + j % sz := by rw [Nat.mul_comm]; exact (Nat.div_add_mod j sz).symm
    rw [hje, flatten_get hlen (i := j / sz) (cs := css (j / sz)) (by simp [hi]) hm2] at hj
    rw [hje]
    have := hat (j / sz) hi (j % sz) u hj
    rw [← hje] at this ⊢
    exact this
  · have hi : i < len := by
      have := (List.getElem?_eq_some_iff.1 h1).1
      simpa using this
    simp [hi] at h1 h2 h3
    subst h1 h2 h3
    exact ⟨hr i hi, hl i hi⟩

theorem add_mk (b o k : Nat) : (⟨b, o, none⟩ : Addr).add k = ⟨b, o + k, none⟩ := by
  unfold Addr.add; split
  · rename_i h; subst h; rfl
  · rfl
theorem trod_slof {α : Type} {rep : World → List Nat → List Value → α → Prop} {Q : α → Prop} {t e : TypeId} {sz fuel : Nat} {cs : List Value} {x : DataW H × List MemPlace} (ht : P.underlying t = some (.slice e)) (hC : P.cellsOf e = sz) (hs0 : 0 < sz)
    (h : DataW.trod enc P w 0 (fun _ => true) true fuel t cs = some x) (hel : ∀ n cs' y, cs'.length = sz → DataW.trod enc P w 0 (fun _ => true) true n e cs' = some y → ∃ f d, Within f 0 w.heap.size ∧ rep w f cs' d ∧ Q d) :
    ∃ A n c f xs, cs = [.slice A n c] ∧ Within f 0 w.heap.size ∧ SlOf rep sz w f (.slice A n c) xs ∧ ∀ d ∈ xs, Q d := by
  rcases open_slice ht h with ⟨rfl, _⟩ | ⟨a, len, cap, m, n, D, Pl, rfl, _, hl, hm, hmm, _, hi⟩
  · exact ⟨none, 0, 0, [], [], rfl, Within.nil _ _, SlOf.nil _ _ _, fun d h => by cases h⟩
  rw [hC] at hi
  simp only [if_true] at hmm
  by_cases h0 : len = 0
  · subst h0
    exact ⟨some a, 0, cap, [], [], rfl, Within.nil _ _, ⟨[], [], [], rfl, ⟨some a, cap, rfl, Nat.zero_le _, hm, .inl ⟨rfl, rfl⟩⟩, rfl, rfl, fun i cs f d hc => by simp at hc⟩, fun d h => by cases h⟩
  obtain ⟨b, o, sp⟩ := a
  have cell0 : ∃ v, w.cell? ⟨b, o, sp⟩ = some v := by
    obtain ⟨cs', hc, _⟩ := hi 0 (by omega)
    obtain ⟨_, hcl, hat⟩ := World.cells?_some hc
    refine ⟨cs'[0]'(by omega), ?_⟩
    have := hat 0 hs0
    rw [List.getElem?_eq_getElem (by omega)] at this
    simpa [Addr.add] using this
  obtain ⟨v0, hv0⟩ := cell0
  have hb : b < w.heap.size := World.block_lt_of_cell? w _ hv0
  have hsp : sp = none := by
    unfold World.cell? at hv0
    split at hv0
    · split at hv0
      · cases hv0
      · rename_i h; simpa using h
    · cases hv0
  subst hsp
  have key : ∀ i, i < len → ∃ cs' f d, cs'.length = sz ∧ Within f 0 w.heap.size ∧ rep w f cs' d ∧ Q d ∧ ∀ j u, cs'[j]? = some u → w.cell? ⟨b, o + (i * sz + j), none⟩ = some u := fun i hil => by
    obtain ⟨cs', hc, htr⟩ := hi i (by omega)
    obtain ⟨_, hcl, hat⟩ := World.cells?_some hc
    obtain ⟨f, d, h1, h2, h3⟩ := hel n cs' _ hcl htr
    refine ⟨cs', f, d, hcl, h1, h2, h3, fun j u hj => ?_⟩
    have hjl := (List.getElem?_eq_some_iff.1 hj).1
    have := hat j (by omega)
    rw [hj] at this
    rw [← this, Go.Deep.add_add, add_mk]
  have : Nonempty α := by
    obtain ⟨_, _, d, _⟩ := key 0 (by omega)
    exact ⟨d⟩
  let cf : Nat → List Value := fun i => if hi : i < len then (key i hi).choose else []
  let ff : Nat → List Nat := fun i => if hi : i < len then (key i hi).choose_spec.choose else []
  let df : Nat → α := fun i => if hi : i < len then (key i hi).choose_spec.choose_spec.choose else Classical.choice this
  have hall : ∀ i, i < len → (cf i).length = sz ∧ Within (ff i) 0 w.heap.size ∧ rep w (ff i) (cf i) (df i) ∧ Q (df i) ∧ ∀ j u, (cf i)[j]? = some u → w.cell? ⟨b, o + (i * sz + j), none⟩ = some u := fun i hi => by
    have := (key i hi).choose_spec.choose_spec.choose_spec
    simp only [cf, ff, df, dif_pos hi]
    exact this
  refine ⟨some ⟨b, o, none⟩, len, cap, _, (List.range len).map df, rfl, ?_, SlOf.mk_at cf ff df hl hm (fun i hi => (hall i hi).1) (fun i hi => (hall i hi).2.2.1) (fun i hi => (hall i hi).2.2.2.2), fun d hd => ?_⟩
  · intro x hx
    rcases List.mem_append.1 hx with hx | hx
    · simp at hx; subst hx; exact ⟨Nat.zero_le _, hb⟩
    · obtain ⟨l, hlm, hxl⟩ := List.mem_flatten.1 hx
      obtain ⟨i, hi, rfl⟩ := List.mem_map.1 hlm
      exact (hall i (List.mem_range.1 hi)).2.1 x hxl
  · obtain ⟨i, hi, rfl⟩ := List.mem_map.1 hd
    exact (hall i (List.mem_range.1 hi)).2.2.2.1
end

section
variable {H : Type} {enc : TypeId × Value → H} {w : World} {fuel : Nat} {cs : List Value} {x : DataW H × List MemPlace}
abbrev TT (enc : TypeId × Value → H) (w : World) (fuel t : Nat) (cs : List Value) (x : DataW H × List MemPlace) : Prop := DataW.trod enc Tryz.prog w 0 (fun _ => true) true fuel t cs = some x

theorem o_bools (h : TT enc w fuel 67 cs x) : ∃ A n c f xs, cs = [.slice A n c] ∧ Within f 0 w.heap.size ∧ S_BoolS w f (.slice A n c) xs := by
  obtain ⟨A, n, c, f, xs, h1, h2, h3, _⟩ := trod_slof (rep := R_Bool) (Q := fun _ => True) Tryz.underlying67 (sz := 1) (by kernel_rfl) (by omega) h fun n cs' y hl hy => by
    obtain ⟨b, rfl, _⟩ := DataW.trod_bool Tryz.underlying4 hy
    exact ⟨[], b, Within.nil _ _, ⟨rfl, rfl⟩, trivial⟩
  exact ⟨A, n, c, f, xs, h1, h2, h3⟩
theorem o_ints (h : TT enc w fuel 57 cs x) : ∃ A n c f xs, cs = [.slice A n c] ∧ Within f 0 w.heap.size ∧ S_Int64S w f (.slice A n c) xs := by
  obtain ⟨A, n, c, f, xs, h1, h2, h3, _⟩ := trod_slof (rep := R_Int64) (Q := fun _ => True) Tryz.underlying57 (sz := 1) (by kernel_rfl) (by omega) h fun n cs' y hl hy => by
    obtain ⟨b, rfl, _⟩ := DataW.trod_int Tryz.underlying2 hy
    exact ⟨[], b, Within.nil _ _, ⟨rfl, rfl⟩, trivial⟩
  exact ⟨A, n, c, f, xs, h1, h2, h3⟩

/-- A struct's field. -/
theorem o_field {t : TypeId} {fs : Array Field} (ht : Tryz.prog.underlying t = some (.struct fs)) (h : TT enc w fuel t cs x) : cs.length = Tryz.prog.cellsOf t ∧ ∃ n, ∀ (i : Nat) (f : Field), fs[i]? = some f → ∃ y, TT enc w n f.type ((cs.drop f.offset).take (Tryz.prog.cellsOf f.type)) y := by
  obtain ⟨xs, n, _, _, hl, hxl, hf⟩ := DataW.trod_struct ht h
  refine ⟨hl, n, fun i f hi => ?_⟩
  have hil : i < xs.length := by rw [hxl]; exact (Array.getElem?_eq_some_iff.1 hi).1
  exact ⟨xs[i], (hf i f hi).trans (List.getElem?_eq_getElem hil)⟩

theorem len2 {l : List Value} (h : l.length = 2) : ∃ a b, l = [a, b] := by
  match l, h with
  | [a, b], _ => exact ⟨a, b, rfl⟩
theorem len4 {l : List Value} (h : l.length = 4) : ∃ a b c d, l = [a, b, c, d] := by
  match l, h with
  | [a, b, c, d], _ => exact ⟨a, b, c, d, rfl⟩
theorem len6 {l : List Value} (h : l.length = 6) : ∃ a b c d e g, l = [a, b, c, d, e, g] := by
  match l, h with
  | [a, b, c, d, e, g], _ => exact ⟨a, b, c, d, e, g, rfl⟩
set_option maxRecDepth 100000 in
theorem o_fires (h : TT enc w fuel 106 cs x) : ∃ A n c f xs, cs = [.slice A n c] ∧ Within f 0 w.heap.size ∧ S_FireS w f (.slice A n c) xs := by
  obtain ⟨A, n, c, f, xs, h1, h2, h3, _⟩ := trod_slof (rep := R_Fire) (Q := fun _ => True) Tryz.underlying106 (sz := 2) (by kernel_rfl) (by omega) h fun n cs' y hl hy => by
    obtain ⟨_, m, hf⟩ := o_field Tryz.underlying178 hy
    obtain ⟨a, b, rfl⟩ := len2 hl
    · skip
      obtain ⟨y0, h0⟩ := hf 0 _ rfl
      obtain ⟨y1, h1⟩ := hf 1 _ rfl
      rw [show Tryz.prog.cellsOf _ = 1 from by kernel_rfl] at h0 h1
      obtain ⟨p, e0, _⟩ := DataW.trod_int Tryz.underlying2 h0
      obtain ⟨q, e1, _⟩ := DataW.trod_int Tryz.underlying2 h1
      simp at e0 e1
      subst e0 e1
      exact ⟨[], ⟨p, q⟩, Within.nil _ _, ⟨rfl, rfl⟩, trivial⟩
  exact ⟨A, n, c, f, xs, h1, h2, h3⟩
set_option maxRecDepth 100000 in
theorem o_glues (h : TT enc w fuel 22 cs x) : ∃ A n c f xs, cs = [.slice A n c] ∧ Within f 0 w.heap.size ∧ S_GlueS w f (.slice A n c) xs ∧ Ok_GlueS xs := by
  exact trod_slof (rep := R_Glue) (Q := Ok_Glue) Tryz.underlying22 (sz := 2) (by kernel_rfl) (by omega) h fun n cs' y hl hy => by
    obtain ⟨_, m, hf⟩ := o_field Tryz.underlying104 hy
    obtain ⟨a, b, rfl⟩ := len2 hl
    · skip
      obtain ⟨y0, h0⟩ := hf 0 _ rfl
      obtain ⟨y1, h1⟩ := hf 1 _ rfl
      rw [show Tryz.prog.cellsOf _ = 1 from by kernel_rfl] at h0 h1
      obtain ⟨p, e0, _, ws⟩ := DataW.trod_string Tryz.underlying9 h0
      obtain ⟨q, e1, _⟩ := DataW.trod_int Tryz.underlying2 h1
      simp at e0 e1
      subst e0 e1
      exact ⟨[], ⟨p, q⟩, Within.nil _ _, ⟨rfl, rfl⟩, by simpa [Ok_Glue, maxLen] using ws⟩
set_option maxRecDepth 100000 in
theorem o_tiles (h : TT enc w fuel 23 cs x) : ∃ A n c f xs, cs = [.slice A n c] ∧ Within f 0 w.heap.size ∧ S_SignalTileS w f (.slice A n c) xs ∧ Ok_SignalTileS xs := by
  exact trod_slof (rep := R_SignalTile) (Q := Ok_SignalTile) Tryz.underlying23 (sz := 4) (by kernel_rfl) (by omega) h fun n cs' y hl hy => by
    obtain ⟨_, m, hf⟩ := o_field Tryz.underlying108 hy
    obtain ⟨a, b, c, d, rfl⟩ := len4 hl
    · skip
      obtain ⟨y0, h0⟩ := hf 0 _ rfl
      obtain ⟨y1, h1⟩ := hf 1 _ rfl
      obtain ⟨y2, h2⟩ := hf 2 _ rfl
      obtain ⟨y3, h3⟩ := hf 3 _ rfl
      rw [show Tryz.prog.cellsOf _ = 1 from by kernel_rfl] at h0 h1 h2 h3
      obtain ⟨p, e0, _, ws⟩ := DataW.trod_string Tryz.underlying9 h0
      obtain ⟨A1, n1, c1, f1, xs1, e1, k1, s1⟩ := o_ints h1
      obtain ⟨A2, n2, c2, f2, xs2, e2, k2, s2⟩ := o_bools h2
      obtain ⟨A3, n3, c3, f3, xs3, e3, k3, s3⟩ := o_fires h3
      simp at e0 e1 e2 e3
      subst e0 e1 e2 e3
      exact ⟨_, ⟨p, xs1, xs2, xs3⟩, k1.app (k2.app k3), ⟨_, _, _, f1, f2, f3, rfl, rfl, s1, s2, s3⟩, by simpa [Ok_SignalTile, maxLen] using ws⟩
set_option maxRecDepth 100000 in
theorem o_cells (h : TT enc w fuel 26 cs x) : ∃ A n c f xs, cs = [.slice A n c] ∧ Within f 0 w.heap.size ∧ S_SignalCellS w f (.slice A n c) xs := by
  obtain ⟨A, n, c, f, xs, h1, h2, h3, _⟩ := trod_slof (rep := R_SignalCell) (Q := fun _ => True) Tryz.underlying26 (sz := 6) (by kernel_rfl) (by omega) h fun n cs' y hl hy => by
    obtain ⟨_, m, hf⟩ := o_field Tryz.underlying69 hy
    obtain ⟨a, b, c, d, e, g, rfl⟩ := len6 hl
    · skip
      obtain ⟨y0, h0⟩ := hf 0 _ rfl
      obtain ⟨y1, h1⟩ := hf 1 _ rfl
      obtain ⟨y2, h2⟩ := hf 2 _ rfl
      obtain ⟨y3, h3⟩ := hf 3 _ rfl
      obtain ⟨y4, h4⟩ := hf 4 _ rfl
      rw [show Tryz.prog.cellsOf _ = 2 from by kernel_rfl] at h0
      rw [show Tryz.prog.cellsOf _ = 1 from by kernel_rfl] at h1 h2 h3 h4
      obtain ⟨_, m2, hf2⟩ := o_field Tryz.underlying47 h0
      obtain ⟨z0, g0⟩ := hf2 0 _ rfl
      obtain ⟨z1, g1⟩ := hf2 1 _ rfl
      rw [show Tryz.prog.cellsOf _ = 1 from by kernel_rfl] at g0 g1
      obtain ⟨px, e0, _⟩ := DataW.trod_int Tryz.underlying2 g0
      obtain ⟨py, e1, _⟩ := DataW.trod_int Tryz.underlying2 g1
      obtain ⟨ti, e2, _⟩ := DataW.trod_int Tryz.underlying2 h1
      obtain ⟨A1, n1, c1, f1, xs1, e3, k1, s1⟩ := o_bools h2
      obtain ⟨A2, n2, c2, f2, xs2, e4, k2, s2⟩ := o_bools h3
      obtain ⟨A3, n3, c3, f3, xs3, e5, k3, s3⟩ := o_bools h4
      simp at e0 e1 e2 e3 e4 e5
      subst e0 e1 e2 e3 e4 e5
      exact ⟨_, ⟨⟨px, py⟩, ti, xs1, xs2, xs3⟩, k1.app (k2.app k3), ⟨_, _, _, f1, f2, f3, rfl, rfl, s1, s2, s3⟩, trivial⟩
  exact ⟨A, n, c, f, xs, h1, h2, h3⟩
set_option maxRecDepth 100000 in
theorem o_set (h : TT enc w fuel 25 cs x) : ∃ A0 n0 c0 f0 A1 n1 c1 f1, ∃ d : D_SignalSet, cs = [.slice A0 n0 c0, .slice A1 n1 c1] ∧ Within f0 0 w.heap.size ∧ S_GlueS w f0 (.slice A0 n0 c0) d.g_Glues ∧ Within f1 0 w.heap.size ∧ S_SignalTileS w f1 (.slice A1 n1 c1) d.g_Tiles ∧ Ok_SignalSet d := by
  obtain ⟨hl, m, hf⟩ := o_field Tryz.underlying25 h
  rw [show Tryz.prog.cellsOf _ = 2 from by kernel_rfl] at hl
  obtain ⟨a, b, rfl⟩ := len2 hl
  · skip
    obtain ⟨y0, h0⟩ := hf 0 _ rfl
    obtain ⟨y1, h1⟩ := hf 1 _ rfl
    rw [show Tryz.prog.cellsOf _ = 1 from by kernel_rfl] at h0 h1
    obtain ⟨A1, n1, c1, f1, xs1, e1, k1, s1, o1⟩ := o_glues h0
    obtain ⟨A2, n2, c2, f2, xs2, e2, k2, s2, o2⟩ := o_tiles h1
    simp at e1 e2
    subst e1 e2
    exact ⟨A1, n1, c1, f1, A2, n2, c2, f2, ⟨xs1, xs2⟩, rfl, k1, s1, k2, s2, o1, o2⟩
end
end Go.Proofs.YtpbniieiinhliaaGreat

namespace Go.Proofs.YtpbniieiinhliaaGreat.V
open Go.RowKit

variable {P : Program} {w w' : World} {D : Nat → Prop} {ι : Names}

def evV (e : D_SignalEvent) : Value := .agg #[.int .i64 e.g_Kind, .int .i64 e.g_At.g_X, .int .i64 e.g_At.g_Y, .int .i64 e.g_Num]
theorem ev_imm (e : D_SignalEvent) : Imm P w D (.agg (eEvent e)) (evV e) := by
  refine .agg _ _ (fun j => if j = 0 then .int .i64 e.g_Kind else if j = 1 then .int .i64 e.g_At.g_X else if j = 2 then .int .i64 e.g_At.g_Y else .int .i64 e.g_Num) rfl (fun a ha => by simp [eEvent] at ha; rcases ha with rfl | rfl | rfl | rfl <;> rfl) (fun j hj => ?_) (fun j a ha => ?_)
  · have : j = 0 ∨ j = 1 ∨ j = 2 ∨ j = 3 := by simp [eEvent] at hj; omega
    rcases this with rfl | rfl | rfl | rfl <;> rfl
  · match j, ha with
    | 0, ha => simp [eEvent] at ha; subst ha; exact .int _ _
    | 1, ha => simp [eEvent] at ha; subst ha; exact .int _ _
    | 2, ha => simp [eEvent] at ha; subst ha; exact .int _ _
    | 3, ha => simp [eEvent] at ha; subst ha; exact .int _ _
    | j + 4, ha => simp [eEvent] at ha
theorem repL_four {a b c d : AV} {x y z u : Value} (h1 : Rep P w D ι a x) (h2 : Rep P w D ι b y) (h3 : Rep P w D ι c z) (h4 : Rep P w D ι d u) : RepL P w D ι [a, b, c, d] #[x, y, z, u] := by
  refine ⟨rfl, fun j v hj => ?_⟩
  match j, hj with
  | 0, hj => simp at hj; subst hj; exact ⟨x, rfl, h1⟩
  | 1, hj => simp at hj; subst hj; exact ⟨y, rfl, h2⟩
  | 2, hj => simp at hj; subst hj; exact ⟨z, rfl, h3⟩
  | 3, hj => simp at hj; subst hj; exact ⟨u, rfl, h4⟩
  | j + 4, hj => simp at hj

theorem play_any {f : Nat} (d : D_SignalSet) (temp : Int) (xs : List D_SignalCell) (ev : D_SignalEvent) (out : List D_SignalCell) (code : Int) (hc : ∀ σ, Call Tryz.prog f [.agg (eSet d), .int .i64 temp, .sl (xs.map eCell), .agg (eEvent ev)] σ (CellsK out code)) (w : World) (A0 : Option Addr) (n0 c0 : Nat) (f0 : List Nat) (h0 : S_GlueS w f0 (.slice A0 n0 c0) d.g_Glues) (k0 : Within f0 0 w.heap.size)
    (A1 : Option Addr) (n1 c1 : Nat) (f1 : List Nat) (h1 : S_SignalTileS w f1 (.slice A1 n1 c1) d.g_Tiles) (k1 : Within f1 0 w.heap.size) (A2 : Option Addr) (n2 c2 : Nat) (f2 : List Nat) (h2 : S_SignalCellS w f2 (.slice A2 n2 c2) xs) (k2 : Within f2 0 w.heap.size) :
    Calls Tryz.prog f #[.agg #[.slice A0 n0 c0, .slice A1 n1 c1], .int .i64 temp, .slice A2 n2 c2, evV ev] w fun e w' => ∃ fp A' c', e = .returned (.tuple #[.slice A' out.length c', .int .i64 code]) ∧ S_SignalCellS w' fp (.slice A' out.length c') out ∧ Fresh w w' fp ∧ Below w.heap.size w w' := by
  have hs := call_sound mixed (hc ⟨fun _ => none, 0⟩) w.heap.size (fun b => b < w.heap.size) (fun _ => none) w #[.agg #[.slice A0 n0 c0, .slice A1 n1 c1], .int .i64 temp, .slice A2 n2 c2, evV ev]
    ⟨Nat.le_refl _, fun _ h => h, fun id r h => (by cases h), fun id id' r r' B B' h => (by cases h)⟩ (fun id h => absurd rfl h)
    (repL_four (.imm _ _ (set_imm h0 h1 (fun b hb => (k0 b hb).2) fun b hb => (k1 b hb).2)) (.imm _ _ (.int _ _)) (.imm _ _ (cells_imm h2 fun b hb => (k2 b hb).2)) (.imm _ _ (ev_imm ev)))
  refine hs.mono ?_
  rintro e w' ⟨r, g', n', D', ι', u, rfl, ⟨x, ids, rfl, hO, hnd⟩, hst, hsim, _, _, hrep⟩
  obtain ⟨vs, fv, rfl, hsz, hv, hr⟩ := rep_tup hrep
  have e0 := hv 0 (by simp)
  have e1 := hv 1 (by simp)
  have r0 := hr 0 _ rfl
  have r1 := rep_int (hr 1 _ rfl)
  obtain ⟨l⟩ := vs
  obtain ⟨p, q, rfl⟩ : ∃ p q, l = [p, q] := by
    match l, hsz with
    | [p, q], _ => exact ⟨p, q, rfl⟩
  simp at e0 e1
  rw [← e0] at r0
  rw [← e1] at r1
  subst r1
  have hS := cells_slof hsim hO r0
  obtain ⟨A', c', rfl, _, _⟩ := SlOf.len hS
  exact ⟨_, A', c', rfl, hS, ids_fresh hsim (OwnN.live cellOk hO) hnd, hst.below⟩

/-- What PlayEvent answers is small. -/
theorem out_len {d : D_SignalSet} {temp : Int} {xs : List D_SignalCell} {ev : D_SignalEvent} : cnt_SignalCellS (playA d temp xs ev).1 ≤ 1000000 := by
  have key : ∀ l : List D_SignalCell, l.length ≤ 80 → (∀ c ∈ l, c.g_On.length = 4 ∧ c.g_Bound.length = 4 ∧ c.g_Fired.length ≤ 6) → cnt_SignalCellS l ≤ 1000000 := by
    intro l hl hb
    have h : ∀ m : List D_SignalCell, (∀ c ∈ m, c.g_On.length = 4 ∧ c.g_Bound.length = 4 ∧ c.g_Fired.length ≤ 6) → cnt_SignalCellS m ≤ 17 * m.length := by
      intro m
      induction m with
      | nil => intro _; exact Nat.zero_le _
      | cons c m ih =>
        intro hm
        have h1 := ih fun x hx => hm x (List.mem_cons_of_mem _ hx)
        have h2 := hm c (by simp)
        have o1 : ∀ l : List Bool, cnt_BoolS l = l.length := fun l => by
          induction l with
          | nil => rfl
          | cons a l ih => show 1 + cnt_BoolS l = _; rw [ih, List.length_cons]; omega
        have h3 : cnt_SignalCellS (c :: m) = (1 + 1 + 1 + cnt_BoolS c.g_On + cnt_BoolS c.g_Bound + cnt_BoolS c.g_Fired) + cnt_SignalCellS m := rfl
        rw [h3, o1, o1, o1, List.length_cons]; omega
    have := h l hb
    omega
  unfold playA
  split
  · rename_i h0
    split
    · rename_i hc
      split
      · exact Nat.zero_le _
      · rename_i hf
        have hok := (ask_ok h0).1
        have ho := doE_ok hok hc (by simpa using hf)
        exact key _ ho.few fun c hc => ⟨(ho.form c hc).on, (ho.form c hc).bound, ho.six c hc⟩
    · exact Nat.zero_le _
  · exact Nat.zero_le _

end Go.Proofs.YtpbniieiinhliaaGreat.V

namespace Go.Proofs.YtpbniieiinhliaaGreat
open Go.RowKit

theorem wt_all {α : Type} (f : α → Nat) : ∀ (l : List α) (x : α), x ∈ l → f x ≤ (l.map f).sum
  | [], _, h => by cases h
  | a :: l, x, h => by
    rw [List.map_cons, List.sum_cons]
    rcases List.mem_cons.1 h with rfl | h
    · omega
    · have := wt_all f l x h; omega
theorem small_set {d : D_SignalSet} (h : wt_SignalSet d ≤ 1048576) : V.SmallSet d ∧ V.SmallNames d ∧ Len_SignalSet d := by
  unfold wt_SignalSet wt_GlueS wt_SignalTileS at h
  have ht : ∀ t ∈ d.g_Tiles, wt_SignalTile t ≤ 1048576 := fun t ht => by
    have : wt_SignalTile t ≤ (d.g_Tiles.map fun d => wt_SignalTile d).sum := wt_all _ _ _ ht
    omega
  have ht' : ∀ t ∈ d.g_Tiles, t.g_Name.size ≤ 1048576 ∧ t.g_Sides.length ≤ 1048576 ∧ t.g_On.length ≤ 1048576 ∧ t.g_Fires.length ≤ 1048576 := fun t htm => by
    have := ht t htm
    unfold wt_SignalTile wt_Int64S wt_BoolS wt_FireS at this
    omega
  refine ⟨⟨by omega, by omega, fun t htm => (ht' t htm).2.1⟩, ⟨fun g hg => ?_, fun t htm => (ht' t htm).1⟩, ⟨by unfold Len_GlueS; omega, by omega, fun k hk => ?_⟩⟩
  · have h1 : wt_Glue g ≤ (d.g_Glues.map fun d => wt_Glue d).sum := wt_all _ _ _ hg
    have h2 : wt_Glue g = g.g_Name.size := rfl
    omega
  · have := ht' _ (List.getElem_mem hk)
    exact ⟨this.2.1, this.2.2.1, this.2.2.2⟩
theorem small_cells {xs : List D_SignalCell} (h : wt_SignalCellS xs ≤ 1048576) : Len_SignalCellS xs := by
  unfold wt_SignalCellS at h
  refine ⟨by omega, fun k hk => ?_⟩
  have h1 : wt_SignalCell xs[k] ≤ (xs.map fun d => wt_SignalCell d).sum := wt_all _ _ _ (List.getElem_mem hk)
  have h2 : wt_SignalCell xs[k] = xs[k].g_On.length + (xs[k].g_Bound.length + xs[k].g_Fired.length) := rfl
  exact ⟨by unfold Len_BoolS; omega, by unfold Len_BoolS; omega, by unfold Len_BoolS; omega⟩

theorem sum_le {α : Type} (f g : α → Nat) (a b : Nat) (h : ∀ x, f x ≤ a + b * g x) : ∀ l : List α, (l.map f).sum ≤ a * l.length + b * (l.map g).sum
  | [] => by simp
  | x :: l => by
    have h1 := h x
    have h2 := sum_le f g a b h l
    simp only [List.map_cons, List.sum_cons, List.length_cons, Nat.mul_add, Nat.mul_one]
    omega
theorem one_sum {α : Type} (f : α → Nat) (a : Nat) (h : ∀ x, f x = a) : ∀ l : List α, (l.map f).sum = a * l.length
  | [] => by simp
  | x :: l => by rw [List.map_cons, List.sum_cons, one_sum f a h l, h x, List.length_cons, Nat.mul_add]; omega
theorem cnt_set {d : D_SignalSet} (h : wt_SignalSet d ≤ 1048576) : cnt_SignalSet d ≤ 4194304 := by
  have h1 : cnt_GlueS d.g_Glues = 2 * d.g_Glues.length := one_sum _ 2 (fun _ => rfl) _
  have h2 : cnt_SignalTileS d.g_Tiles ≤ 1 * d.g_Tiles.length + 2 * (d.g_Tiles.map fun d => wt_SignalTile d).sum := sum_le _ _ 1 2 (fun t => by
    have e1 : cnt_Int64S t.g_Sides = 1 * t.g_Sides.length := one_sum _ 1 (fun _ => rfl) _
    have e2 : cnt_BoolS t.g_On = 1 * t.g_On.length := one_sum _ 1 (fun _ => rfl) _
    have e3 : cnt_FireS t.g_Fires = 2 * t.g_Fires.length := one_sum _ 2 (fun _ => rfl) _
    show 1 + cnt_Int64S t.g_Sides + cnt_BoolS t.g_On + cnt_FireS t.g_Fires ≤ 1 + 2 * (t.g_Name.size + (t.g_Sides.length + (t.g_On.length + t.g_Fires.length)))
    omega) _
  unfold wt_SignalSet wt_GlueS wt_SignalTileS at h
  unfold cnt_SignalSet
  omega
theorem cnt_cells {xs : List D_SignalCell} (h : wt_SignalCellS xs ≤ 1048576) : cnt_SignalCellS xs ≤ 4194304 := by
  have h2 : cnt_SignalCellS xs ≤ 3 * xs.length + 1 * (xs.map fun d => wt_SignalCell d).sum := sum_le _ _ 3 1 (fun t => by
    have e1 : cnt_BoolS t.g_On = 1 * t.g_On.length := one_sum _ 1 (fun _ => rfl) _
    have e2 : cnt_BoolS t.g_Bound = 1 * t.g_Bound.length := one_sum _ 1 (fun _ => rfl) _
    have e3 : cnt_BoolS t.g_Fired = 1 * t.g_Fired.length := one_sum _ 1 (fun _ => rfl) _
    show 1 + 1 + 1 + cnt_BoolS t.g_On + cnt_BoolS t.g_Bound + cnt_BoolS t.g_Fired ≤ 3 + 1 * (t.g_On.length + (t.g_Bound.length + t.g_Fired.length))
    omega) _
  unfold wt_SignalCellS at h
  omega
theorem unf_b {w w' : World} {f : List Nat} (h : ∀ b ∈ f, Unf w b) (hb : Below w.heap.size w w') : ∀ b ∈ f, Unf w' b := fun b hm => (h b hm).same (hb.block b (h b hm).lt)

/-! ### What lies in a world -/
structure SetIn (w : World) (A0 : Option Addr) (n0 c0 : Nat) (f0 : List Nat) (A1 : Option Addr) (n1 c1 : Nat) (f1 : List Nat) (d : D_SignalSet) : Prop where
  g : S_GlueS w f0 (.slice A0 n0 c0) d.g_Glues
  gw : Within f0 0 w.heap.size
  t : S_SignalTileS w f1 (.slice A1 n1 c1) d.g_Tiles
  tw : Within f1 0 w.heap.size
structure CellsIn (w : World) (A : Option Addr) (n c : Nat) (f : List Nat) (xs : List D_SignalCell) : Prop where
  c : S_SignalCellS w f (.slice A n c) xs
  w : Within f 0 w.heap.size
structure EvIn (w : World) (A : Option Addr) (n c : Nat) (f : List Nat) (L : List D_SignalEvent) : Prop where
  e : S_SignalEventS w f (.slice A n c) L
  w : Within f 0 w.heap.size
structure Box2 (w : World) (b : Nat) (x y : Value) : Prop where
  c0 : w.cell? ⟨b, 0, none⟩ = some x
  c1 : w.cell? ⟨b, 1, none⟩ = some y
variable {w w' : World}
theorem SetIn.b {A0 n0 c0 f0 A1 n1 c1 f1 d} (h : SetIn w A0 n0 c0 f0 A1 n1 c1 f1 d) (hb : Below w.heap.size w w') : SetIn w' A0 n0 c0 f0 A1 n1 c1 f1 d :=
  ⟨h.g.kb h.gw hb, h.gw.wide (Nat.le_refl _) hb.size, h.t.kb h.tw hb, h.tw.wide (Nat.le_refl _) hb.size⟩
theorem CellsIn.b {A n c f xs} (h : CellsIn w A n c f xs) (hb : Below w.heap.size w w') : CellsIn w' A n c f xs := ⟨h.c.kb h.w hb, h.w.wide (Nat.le_refl _) hb.size⟩
theorem EvIn.b {A n c f L} (h : EvIn w A n c f L) (hb : Below w.heap.size w w') : EvIn w' A n c f L := ⟨h.e.kb h.w hb, h.w.wide (Nat.le_refl _) hb.size⟩
theorem Box2.b {b x y} (h : Box2 w b x y) (hb : Below w.heap.size w w') : Box2 w' b x y :=
  ⟨(hb.cell (p := ⟨b, 0, none⟩) (World.block_lt_of_cell? w _ h.c0)).trans h.c0, (hb.cell (p := ⟨b, 1, none⟩) (World.block_lt_of_cell? w _ h.c1)).trans h.c1⟩

theorem apart {a b : List Nat} {lo hi lo' hi' : Nat} (ha : Within a lo hi) (hb : Within b lo' hi') (h : hi ≤ lo') : ∀ x ∈ a, x ∉ b := fun x hx hy => by
  have := ha x hx
  have := hb x hy
  omega
theorem apart' {a b : List Nat} {lo hi lo' hi' : Nat} (ha : Within a lo hi) (hb : Within b lo' hi') (h : hi' ≤ lo) : ∀ x ∈ a, x ∉ b := fun x hx hy => by
  have := ha x hx
  have := hb x hy
  omega
theorem SetIn.o {f : List Nat} {A0 n0 c0 f0 A1 n1 c1 f1 d} (h : SetIn w A0 n0 c0 f0 A1 n1 c1 f1 d) (ho : Only f w w') (h0 : ∀ x ∈ f0, x ∉ f) (h1 : ∀ x ∈ f1, x ∉ f) : SetIn w' A0 n0 c0 f0 A1 n1 c1 f1 d :=
  ⟨h.g.same (ho.same h0 fun x hx => (h.gw x hx).2), h.gw.wide (Nat.le_refl _) ho.size, h.t.same (ho.same h1 fun x hx => (h.tw x hx).2), h.tw.wide (Nat.le_refl _) ho.size⟩
theorem CellsIn.o {f : List Nat} {A n c fp xs} (h : CellsIn w A n c fp xs) (ho : Only f w w') (h0 : ∀ x ∈ fp, x ∉ f) : CellsIn w' A n c fp xs := ⟨h.c.same (ho.same h0 fun x hx => (h.w x hx).2), h.w.wide (Nat.le_refl _) ho.size⟩
theorem EvIn.o {f : List Nat} {A n c fp L} (h : EvIn w A n c fp L) (ho : Only f w w') (h0 : ∀ x ∈ fp, x ∉ f) : EvIn w' A n c fp L := ⟨h.e.same (ho.same h0 fun x hx => (h.w x hx).2), h.w.wide (Nat.le_refl _) ho.size⟩
theorem Box2.o {f : List Nat} {b x y} (h : Box2 w b x y) (ho : Only f w w') (h0 : b ∉ f) : Box2 w' b x y := by
  have hb := ho.block b (World.block_lt_of_cell? w _ h.c0) h0
  exact ⟨(cell_same hb).trans h.c0, (cell_same hb).trans h.c1⟩
theorem SetIn.of_R {fp : List Nat} {A0 n0 c0 A1 n1 c1} {d : D_SignalSet} (h : R_SignalSet w' fp [.slice A0 n0 c0, .slice A1 n1 c1] d) (hF : Fresh w w' fp) : ∃ f0 f1, fp = f0 ++ f1 ∧ SetIn w' A0 n0 c0 f0 A1 n1 c1 f1 d := by
  obtain ⟨v0, v1, f0, f1, rfl, hv, s0, s1⟩ := h
  simp at hv
  obtain ⟨rfl, rfl⟩ := hv
  exact ⟨f0, f1, rfl, s0, hF.within.left.wide (Nat.zero_le _) (Nat.le_refl _), s1, hF.within.right.wide (Nat.zero_le _) (Nat.le_refl _)⟩
end Go.Proofs.YtpbniieiinhliaaGreat

namespace Go.Proofs.YtpbniieiinhliaaGreat
open Go.RowKit

structure Box4 (w : World) (b : Nat) (e : D_SignalEvent) : Prop where
  c0 : w.cell? ⟨b, 0, none⟩ = some (.int .i64 e.g_Kind)
  c1 : w.cell? ⟨b, 1, none⟩ = some (.int .i64 e.g_At.g_X)
  c2 : w.cell? ⟨b, 2, none⟩ = some (.int .i64 e.g_At.g_Y)
  c3 : w.cell? ⟨b, 3, none⟩ = some (.int .i64 e.g_Num)
variable {w w' : World}
theorem Box4.b {b : Nat} {e : D_SignalEvent} (h : Box4 w b e) (hb : Below w.heap.size w w') : Box4 w' b e :=
  ⟨(hb.cell (p := ⟨b, 0, none⟩) (World.block_lt_of_cell? w _ h.c0)).trans h.c0, (hb.cell (p := ⟨b, 1, none⟩) (World.block_lt_of_cell? w _ h.c1)).trans h.c1, (hb.cell (p := ⟨b, 2, none⟩) (World.block_lt_of_cell? w _ h.c2)).trans h.c2, (hb.cell (p := ⟨b, 3, none⟩) (World.block_lt_of_cell? w _ h.c3)).trans h.c3⟩
theorem Box4.o {f : List Nat} {b : Nat} {e : D_SignalEvent} (h : Box4 w b e) (ho : Only f w w') (h0 : b ∉ f) : Box4 w' b e := by
  have hb := ho.block b (World.block_lt_of_cell? w _ h.c0) h0
  exact ⟨(cell_same hb).trans h.c0, (cell_same hb).trans h.c1, (cell_same hb).trans h.c2, (cell_same hb).trans h.c3⟩

set_option maxRecDepth 100000 in
set_option maxHeartbeats 4000000 in
theorem law_play (w : World) (A0 : Option Addr) (n0 c0 : Nat) (f0 : List Nat) (A1 : Option Addr) (n1 c1 : Nat) (f1 : List Nat) (d : D_SignalSet) (hs : SetIn w A0 n0 c0 f0 A1 n1 c1 f1 d) (ok : Ok_SignalSet d) (temp : Int)
    (A2 : Option Addr) (n2 c2 : Nat) (f2 : List Nat) (xs : List D_SignalCell) (hc : CellsIn w A2 n2 c2 f2 xs) (ev : D_SignalEvent) :
    Calls Tryz.prog 4 #[.agg #[.slice A0 n0 c0, .slice A1 n1 c1], .int .i64 temp, .slice A2 n2 c2, V.evV ev] w fun e w' => e = .returned (.bool true) ∧ Below w.heap.size w w' := by
  have b0 : Below w.heap.size w ((w.alloc (.cells #[.slice A0 n0 c0, .slice A1 n1 c1] 25)).alloc (.cells #[.int .i64 ev.g_Kind, .int .i64 ev.g_At.g_X, .int .i64 ev.g_At.g_Y, .int .i64 ev.g_Num] 49)) := ((Below.refl _ _).alloc (Nat.le_refl _) _).alloc (by simp) _
  have x0 : Box2 ((w.alloc (.cells #[.slice A0 n0 c0, .slice A1 n1 c1] 25)).alloc (.cells #[.int .i64 ev.g_Kind, .int .i64 ev.g_At.g_X, .int .i64 ev.g_At.g_Y, .int .i64 ev.g_Num] 49)) w.heap.size (.slice A0 n0 c0) (.slice A1 n1 c1) := ⟨by simp [go_sem], by simp [go_sem]⟩
  have v0 : Box4 ((w.alloc (.cells #[.slice A0 n0 c0, .slice A1 n1 c1] 25)).alloc (.cells #[.int .i64 ev.g_Kind, .int .i64 ev.g_At.g_X, .int .i64 ev.g_At.g_Y, .int .i64 ev.g_Num] 49)) (w.heap.size + 1) ev := ⟨by simp [go_sem], by simp [go_sem], by simp [go_sem], by simp [go_sem]⟩
  have hs0 := hs
  have hc0 := hc
  replace hs := hs.b b0
  replace hc := hc.b b0
  have w0 : Within f0 0 w.heap.size := hs0.gw
  have w1' : Within f1 0 w.heap.size := hs0.tw
  have w2' : Within f2 0 w.heap.size := hc0.w
  clear hs0 hc0
  unfold V.evV
  go_enter Tryz.func4, Tryz.ntmps4
  go_wp2_with fail
  refine (szSignalSet_any _ d 1048576 A0 n0 c0 f0 hs.g hs.gw A1 n1 c1 f1 hs.t hs.tw (by omega) (by omega) ok).mono ?_
  rintro e w1 ⟨rfl, z1⟩
  replace hs := hs.b z1
  replace hc := hc.b z1
  replace x0 := x0.b z1
  replace v0 := v0.b z1
  replace b0 := b0.trans (z1.mono b0.size)
  clear z1
  rcases szR_cases (wt_SignalSet d) 1048576 with ⟨e1, l1⟩ | ⟨e1, l1⟩
  case inr =>
    rw [e1]
    go_wp2_with fail
    go_ret
    exact ⟨rfl, b0⟩
  obtain ⟨ss, sn, ls⟩ := small_set (d := d) (by omega)
  have m1 : ¬ ((1048576 : Int) - (wt_SignalSet d : Int) < 0) := by omega
  rw [e1]
  go_wp2_with fail
  refine (szSignalCellS_any _ A2 n2 c2 f2 xs (1048576 - (wt_SignalSet d : Int)) hc.c hc.w (by omega) (by omega)).mono ?_
  rintro e w2 ⟨rfl, z1⟩
  replace hs := hs.b z1
  replace hc := hc.b z1
  replace x0 := x0.b z1
  replace v0 := v0.b z1
  replace b0 := b0.trans (z1.mono b0.size)
  clear z1
  rcases szR_cases (wt_SignalCellS xs) (1048576 - (wt_SignalSet d : Int)) with ⟨e2, l2⟩ | ⟨e2, l2⟩
  case inr =>
    rw [e2]
    go_wp2_with fail
    go_ret
    exact ⟨rfl, b0⟩
  have lc := small_cells (xs := xs) (by omega)
  have m2 : ¬ ((1048576 : Int) - (wt_SignalSet d : Int) - (wt_SignalCellS xs : Int) < 0) := by omega
  rw [e2]
  go_wp2_with fail
  have cs1 := cnt_set (d := d) (by omega)
  have cs2 := cnt_cells (xs := xs) (by omega)
  clear e1 e2 m1 m2 l1 l2
  obtain ⟨L, code, sp, ip, hlen⟩ : ∃ L code, (∀ σ, V.Call Tryz.prog 19 [.agg (V.eSet d), .int .i64 temp, .sl (xs.map V.eCell), .agg (V.eEvent ev)] σ (V.CellsK L code)) ∧ (∀ σ, V.Call Tryz.prog 21 [.agg (V.eSet d), .int .i64 temp, .sl (xs.map V.eCell), .agg (V.eEvent ev)] σ (V.CellsK L code)) ∧ cnt_SignalCellS L ≤ 1000000 := by
    refine ⟨(V.playA d temp xs ev).1, (V.playA d temp xs ev).2, V.sPlayEvent_v d temp xs ev ss sn, V.iPlayEvent_v d temp xs ev ss sn, V.out_len⟩
  -- the reference's call
  have zD : Below w2.heap.size w2 w2.drew := (Below.refl _ _).drew
  replace hs := hs.b zD
  replace hc := hc.b zD
  replace x0 := x0.b zD
  replace v0 := v0.b zD
  replace b0 := b0.trans (zD.mono b0.size)
  clear zD
  go_region_held3 (fun w' => w'.cell? ⟨w.heap.size, 0, none⟩ = some (.slice A0 n0 c0) ∧ w'.cell? ⟨w.heap.size, 1, none⟩ = some (.slice A1 n1 c1) ∧ w'.cell? ⟨w.heap.size + 1, 0, none⟩ = some (.int .i64 ev.g_Kind) ∧ w'.cell? ⟨w.heap.size + 1, 1, none⟩ = some (.int .i64 ev.g_At.g_X) ∧ w'.cell? ⟨w.heap.size + 1, 2, none⟩ = some (.int .i64 ev.g_At.g_Y) ∧ w'.cell? ⟨w.heap.size + 1, 3, none⟩ = some (.int .i64 ev.g_Num))
    (first | exact ⟨x0.c0, x0.c1, v0.c0, v0.c1, v0.c2, v0.c3⟩ | exact ⟨x4.c0, x4.c1, v4.c0, v4.c1, v4.c2, v4.c3⟩ | exact ⟨x3.c0, x3.c1, v3.c0, v3.c1, v3.c2, v3.c3⟩ | exact ⟨x2.c0, x2.c1, v2.c0, v2.c1, v2.c2, v2.c3⟩ | exact ⟨x1.c0, x1.c1, v1.c0, v1.c1, v1.c2, v1.c3⟩)
    (first | (go_at_call 9; refine (toSignalSet_any _ d A0 n0 c0 f0 hs.g hs.gw A1 n1 c1 f1 hs.t hs.tw ls).mono ?_; rintro e w3 ⟨fp, a0, k0, a1, k1, rfl, hR, hF, z1⟩; obtain ⟨g0, g1, rfl, hu1⟩ := SetIn.of_R hR hF; have hs1 := hs.b z1; have hc1 := hc.b z1; have x1 := x0.b z1; have v1 := v0.b z1; clear hR hF) | (go_at_call 10; refine (toSignalCellS_any _ A2 n2 c2 f2 xs hc1.c hc1.w lc).mono ?_; rintro e w4 ⟨fq, a2, k2, rfl, hR, hF, z2⟩; have hv2 : CellsIn w4 a2 xs.length k2 fq xs := ⟨hR, hF.within.wide (Nat.zero_le _) (Nat.le_refl _)⟩; have hs2 := hs1.b z2; have hc2 := hc1.b z2; have hu2 := hu1.b z2; have x2 := x1.b z2; have v2 := v1.b z2; clear hR hF) | (go_at_call 20; refine (toSignalEvent_any _ ev).mono ?_; rintro e w4b ⟨rfl, z3⟩; have hv3 := hv2.b z3; have hs3 := hs2.b z3; have hc3 := hc2.b z3; have hu3 := hu2.b z3; have x3 := x2.b z3; have v3 := v2.b z3;) | (go_at_call 19; refine (V.play_any d temp xs ev _ _ sp _ a0 _ k0 g0 hu3.g hu3.gw a1 _ k1 g1 hu3.t hu3.tw a2 _ k2 fq hv3.c hv3.w).mono ?_; rintro e w5 ⟨fl, aL, kL, rfl, hL0, hFL, z4⟩; have hs4 := hs3.b z4; have hc4 := hc3.b z4; have x4 := x3.b z4; have v4 := v3.b z4;))
  replace b0 := (((b0.trans (z1.mono b0.size)).trans (z2.mono (b0.trans (z1.mono b0.size)).size)).trans (z3.mono ((b0.trans (z1.mono b0.size)).trans (z2.mono (b0.trans (z1.mono b0.size)).size)).size)).trans (z4.mono (((b0.trans (z1.mono b0.size)).trans (z2.mono (b0.trans (z1.mono b0.size)).size)).trans (z3.mono ((b0.trans (z1.mono b0.size)).trans (z2.mono (b0.trans (z1.mono b0.size)).size)).size)).size)
  have hL : CellsIn w5 aL L.length kL fl L := ⟨hL0, hFL.within.wide (Nat.zero_le _) (Nat.le_refl _)⟩
  have hLw : Within fl 0 w5.heap.size := hL.w
  replace hs := hs4
  replace hc := hc4
  replace x0 := x4
  replace v0 := v4
  clear z1 z2 z3 z4 hs1 hs2 hs3 hs4 hc1 hc2 hc3 hc4 x1 x2 x3 x4 v1 v2 v3 v4 hu1 hu2 hu3 hv2 hv3 hL0 hFL
  have q5 : w.heap.size < w5.heap.size := World.block_lt_of_cell? _ _ x0.c0
  have q5v : w.heap.size + 1 < w5.heap.size := World.block_lt_of_cell? _ _ v0.c0
  -- the program's arguments
  have p0 := x0.c0
  have p1 := x0.c1
  go_wp2_with fail
  clear p0 p1
  refine (toSignalSet_any _ d A0 n0 c0 f0 hs.g hs.gw A1 n1 c1 f1 hs.t hs.tw ls).mono ?_
  rintro e w6 ⟨fp, a0, k0, a1, k1, rfl, hR, hFx, z1⟩
  obtain ⟨g0, g1, rfl, hx⟩ := SetIn.of_R hR hFx
  replace hs := hs.b z1
  replace hc := hc.b z1
  replace x0 := x0.b z1
  replace v0 := v0.b z1
  replace hL := hL.b z1
  replace b0 := b0.trans (z1.mono b0.size)
  have q6 := z1.size
  have k6 : Below w6.heap.size w6 w6 := Below.refl _ _
  clear z1 hR
  go_wp2_with fail
  obtain ⟨w7, hw7⟩ : ∃ w7, w7 = w6.alloc (.cells #[.slice a0 d.g_Glues.length k0, .slice a1 d.g_Tiles.length k1] 35) := ⟨_, rfl⟩
  rw [← hw7]
  have z1 : Below w6.heap.size w6 w7 := by rw [hw7]; exact (Below.refl _ _).alloc (Nat.le_refl _) _
  have y0 : Box2 w7 w6.heap.size (.slice a0 d.g_Glues.length k0) (.slice a1 d.g_Tiles.length k1) := by rw [hw7]; exact ⟨by simp [go_sem], by simp [go_sem]⟩
  have q7 : w7.heap.size = w6.heap.size + 1 := by rw [hw7]; simp [go_sem]
  replace hs := hs.b z1
  replace hc := hc.b z1
  replace x0 := x0.b z1
  replace v0 := v0.b z1
  replace hL := hL.b z1
  replace hx := hx.b z1
  replace b0 := b0.trans (z1.mono b0.size)
  replace k6 := k6.trans (z1.mono k6.size)
  clear z1 hw7
  refine (toSignalCellS_any _ A2 n2 c2 f2 xs hc.c hc.w lc).mono ?_
  rintro e w8 ⟨fq, a2, k2, rfl, hR, hFy, z1⟩
  have hy : CellsIn w8 a2 xs.length k2 fq xs := ⟨hR, hFy.within.wide (Nat.zero_le _) (Nat.le_refl _)⟩
  replace hs := hs.b z1
  replace hc := hc.b z1
  replace x0 := x0.b z1
  replace v0 := v0.b z1
  replace y0 := y0.b z1
  replace hL := hL.b z1
  replace hx := hx.b z1
  replace b0 := b0.trans (z1.mono b0.size)
  replace k6 := k6.trans (z1.mono k6.size)
  have q8 := z1.size
  have k8 : Below w8.heap.size w8 w8 := Below.refl _ _
  clear z1 hR
  -- the program's call
  go_wp2_with fail
  have zD : Below w8.heap.size w8 w8.drew := (Below.refl _ _).drew
  replace hs := hs.b zD
  replace hc := hc.b zD
  replace x0 := x0.b zD
  replace v0 := v0.b zD
  replace y0 := y0.b zD
  replace hL := hL.b zD
  replace hx := hx.b zD
  replace hy := hy.b zD
  replace b0 := b0.trans (zD.mono b0.size)
  replace k6 := k6.trans (zD.mono k6.size)
  replace k8 := k8.trans (zD.mono k8.size)
  have q8d : w8.heap.size ≤ w8.drew.heap.size := zD.size
  clear zD
  go_region_held3 (fun w' => w'.cell? ⟨w6.heap.size, 0, none⟩ = some (.slice a0 d.g_Glues.length k0) ∧ w'.cell? ⟨w6.heap.size, 1, none⟩ = some (.slice a1 d.g_Tiles.length k1) ∧ w'.cell? ⟨w.heap.size + 1, 0, none⟩ = some (.int .i64 ev.g_Kind) ∧ w'.cell? ⟨w.heap.size + 1, 1, none⟩ = some (.int .i64 ev.g_At.g_X) ∧ w'.cell? ⟨w.heap.size + 1, 2, none⟩ = some (.int .i64 ev.g_At.g_Y) ∧ w'.cell? ⟨w.heap.size + 1, 3, none⟩ = some (.int .i64 ev.g_Num))
    (first | exact ⟨y0.c0, y0.c1, v0.c0, v0.c1, v0.c2, v0.c3⟩ | exact ⟨y2.c0, y2.c1, v2.c0, v2.c1, v2.c2, v2.c3⟩ | exact ⟨y1.c0, y1.c1, v1.c0, v1.c1, v1.c2, v1.c3⟩)
    (first | (go_at_call 20; refine (toSignalEvent_any _ ev).mono ?_; rintro e w8b ⟨rfl, z1⟩; have y1 := y0.b z1; have v1 := v0.b z1; have hx1 := hx.b z1; have hy1 := hy.b z1) | (go_at_call 21; refine (V.play_any d temp xs ev _ _ ip _ a0 _ k0 g0 hx1.g hx1.gw a1 _ k1 g1 hx1.t hx1.tw a2 _ k2 fq hy1.c hy1.w).mono ?_; rintro e w9 ⟨fg, aG, kG, rfl, hG0, hFg, z2⟩; have y2 := y1.b z2; have v2 := v1.b z2))
  have hG : CellsIn w9 aG L.length kG fg L := ⟨hG0, hFg.within.wide (Nat.zero_le _) (Nat.le_refl _)⟩
  have q8b := z1.size
  replace hs := (hs.b z1).b z2
  replace hc := (hc.b z1).b z2
  replace x0 := (x0.b z1).b z2
  replace hL := (hL.b z1).b z2
  replace v0 := v2
  replace y0 := y2
  replace hx := hx1.b z2
  replace hy := hy1.b z2
  replace b0 := (b0.trans (z1.mono b0.size)).trans (z2.mono (b0.trans (z1.mono b0.size)).size)
  replace k6 := (k6.trans (z1.mono k6.size)).trans (z2.mono (k6.trans (z1.mono k6.size)).size)
  replace k8 := (k8.trans (z1.mono k8.size)).trans (z2.mono (k8.trans (z1.mono k8.size)).size)
  have q9 := z2.size
  have k9 : Below w9.heap.size w9 w9 := Below.refl _ _
  clear z1 z2 y1 y2 v1 v2 hx1 hy1 hG0
  go_wp2_with fail
  refine (eqSignalCellS_any _ aG aL _ kG _ kL fg fl L L hG.c hL.c hG.w hL.w).mono ?_
  rintro e w10 ⟨rfl, z1⟩
  rw [show decide (L = L) = true from by simp]
  replace hs := hs.b z1
  replace hc := hc.b z1
  replace x0 := x0.b z1
  replace v0 := v0.b z1
  replace y0 := y0.b z1
  replace hL := hL.b z1
  replace hx := hx.b z1
  replace hy := hy.b z1
  replace hG := hG.b z1
  replace b0 := b0.trans (z1.mono b0.size)
  replace k9 := k9.trans (z1.mono k9.size)
  replace k8 := k8.trans (z1.mono k8.size)
  replace k6 := k6.trans (z1.mono k6.size)
  have q10 := z1.size
  clear z1
  go_wp2_with fail
  -- the arguments are as they were
  have zD : Below w10.heap.size w10 w10.drew := (Below.refl _ _).drew
  replace hs := hs.b zD
  replace hc := hc.b zD
  replace x0 := x0.b zD
  replace v0 := v0.b zD
  replace y0 := y0.b zD
  replace hL := hL.b zD
  replace hx := hx.b zD
  replace hy := hy.b zD
  replace hG := hG.b zD
  replace b0 := b0.trans (zD.mono b0.size)
  replace k6 := k6.trans (zD.mono k6.size)
  replace k8 := k8.trans (zD.mono k8.size)
  replace k9 := k9.trans (zD.mono k9.size)
  have q10d : w10.heap.size ≤ w10.drew.heap.size := zD.size
  clear zD
  go_region_held3 (fun w' => w'.cell? ⟨w6.heap.size, 0, none⟩ = some (.slice a0 d.g_Glues.length k0) ∧ w'.cell? ⟨w6.heap.size, 1, none⟩ = some (.slice a1 d.g_Tiles.length k1) ∧ w'.cell? ⟨w.heap.size, 0, none⟩ = some (.slice A0 n0 c0) ∧ w'.cell? ⟨w.heap.size, 1, none⟩ = some (.slice A1 n1 c1))
    (first | exact ⟨y0.c0, y0.c1, x0.c0, x0.c1⟩ | exact ⟨y2.c0, y2.c1, x2.c0, x2.c1⟩ | exact ⟨y1.c0, y1.c1, x1.c0, x1.c1⟩)
    (first | (go_at_call 9; refine (toSignalSet_any _ d A0 n0 c0 f0 hs.g hs.gw A1 n1 c1 f1 hs.t hs.tw ls).mono ?_; rintro e w11 ⟨fr, r0, s0, r1, s1, rfl, hR, hF, z1⟩; obtain ⟨t0, t1, rfl, hw⟩ := SetIn.of_R hR hF; have x1 := x0.b z1; have y1 := y0.b z1; have hx1 := hx.b z1) | (go_at_call 13; refine (eqSignalSet_any _ d d a0 _ k0 g0 hx1.g hx1.gw a1 _ k1 g1 hx1.t hx1.tw r0 _ s0 t0 hw.g hw.gw r1 _ s1 t1 hw.t hw.tw).mono ?_; rintro e w12 ⟨rfl, z2⟩; have x2 := x1.b z2; have y2 := y1.b z2))
  replace hs := (hs.b z1).b z2
  replace hc := (hc.b z1).b z2
  replace x0 := x2
  replace y0 := y2
  replace v0 := (v0.b z1).b z2
  replace hL := (hL.b z1).b z2
  replace hx := hx1.b z2
  replace hy := (hy.b z1).b z2
  replace hG := (hG.b z1).b z2
  replace b0 := (b0.trans (z1.mono b0.size)).trans (z2.mono (b0.trans (z1.mono b0.size)).size)
  replace k6 := (k6.trans (z1.mono k6.size)).trans (z2.mono (k6.trans (z1.mono k6.size)).size)
  replace k8 := (k8.trans (z1.mono k8.size)).trans (z2.mono (k8.trans (z1.mono k8.size)).size)
  replace k9 := (k9.trans (z1.mono k9.size)).trans (z2.mono (k9.trans (z1.mono k9.size)).size)
  have q12 : w10.drew.heap.size ≤ w12.heap.size := Nat.le_trans z1.size z2.size
  clear z1 z2 x1 x2 y1 y2 hx1 hw hR hF
  go_wp2_with fail
  refine (toSignalCellS_any _ A2 n2 c2 f2 xs hc.c hc.w lc).mono ?_
  rintro e w13 ⟨fr, r2, s2, rfl, hR, hF, z1⟩
  have hv : CellsIn w13 r2 xs.length s2 fr xs := ⟨hR, hF.within.wide (Nat.zero_le _) (Nat.le_refl _)⟩
  replace hs := hs.b z1
  replace hc := hc.b z1
  replace x0 := x0.b z1
  replace v0 := v0.b z1
  replace y0 := y0.b z1
  replace hL := hL.b z1
  replace hx := hx.b z1
  replace hy := hy.b z1
  replace hG := hG.b z1
  replace b0 := b0.trans (z1.mono b0.size)
  replace k9 := k9.trans (z1.mono k9.size)
  replace k8 := k8.trans (z1.mono k8.size)
  replace k6 := k6.trans (z1.mono k6.size)
  have q13 := z1.size
  clear z1 hR hF
  go_wp2_with fail
  refine (eqSignalCellS_any _ a2 r2 _ k2 _ s2 fq fr xs xs hy.c hv.c hy.w hv.w).mono ?_
  rintro e w14 ⟨rfl, z1⟩
  replace hs := hs.b z1
  replace hc := hc.b z1
  replace x0 := x0.b z1
  replace v0 := v0.b z1
  replace y0 := y0.b z1
  replace hL := hL.b z1
  replace hx := hx.b z1
  replace hy := hy.b z1
  replace hG := hG.b z1
  replace b0 := b0.trans (z1.mono b0.size)
  replace k9 := k9.trans (z1.mono k9.size)
  replace k8 := k8.trans (z1.mono k8.size)
  replace k6 := k6.trans (z1.mono k6.size)
  have q14 := z1.size
  clear z1 hv
  rw [show decide (xs = xs) = true from by simp]
  have p0 := y0.c0
  have p1 := y0.c1
  go_wp2_with fail
  clear p0 p1
  -- the arguments are written over
  obtain ⟨nd0, nd1, ndx⟩ := List.nodup_append.1 hFx.nodup
  have ux := unf_b hFx.unf k6
  have uy := unf_b hFy.unf k8
  have ug := unf_b hFg.unf k9
  refine (markSignalSet_any _ d 1 a0 _ k0 g0 hx.g nd0 (fun x h => ux x (List.mem_append_left _ h)) a1 _ k1 g1 hx.t nd1 (fun x h => ux x (List.mem_append_right _ h)) (fun x h h' => ndx x h x h' rfl) (fun x h h' => ndx x h' x h rfl) (by omega) (by omega)).mono ?_
  rintro e w15 ⟨rfl, _, _, zo⟩
  have gx : Within (g0 ++ g1) w5.heap.size w6.heap.size := hFx.within
  have gy : Within fq w7.heap.size w8.heap.size := hFy.within
  have gg : Within fg w8.heap.size w9.heap.size := hFg.within.wide (by omega) (Nat.le_refl _)
  have ndy := hFy.nodup
  have ndg := hFg.nodup
  clear hFx hFy hFg k6 k8 k9 hx y0 nd0 nd1 ndx ux
  replace hs := hs.o zo (apart w0 gx (by omega)) (apart w1' gx (by omega))
  replace hc := hc.o zo (apart w2' gx (by omega))
  replace x0 := x0.o zo (fun h => by have := gx _ h; omega)
  replace v0 := v0.o zo (fun h => by have := gx _ h; omega)
  replace hL := hL.o zo (apart hLw gx (by omega))
  replace hy := hy.o zo (apart' gy gx (by omega))
  replace hG := hG.o zo (apart' gg gx (by omega))
  replace b0 := b0.trans (zo.below b0.size fun x hx => by have := gx x hx; omega)
  replace uy := fun b h => zo.unf b (uy b h)
  replace ug := fun b h => zo.unf b (ug b h)
  have q15 := zo.size
  clear zo
  go_wp2_with fail
  refine (markSignalCellS_any _ a2 _ k2 fq xs (1 + (cnt_SignalSet d : Nat)) hy.c ndy uy (by omega) (by omega)).mono ?_
  rintro e w16 ⟨rfl, _, zo⟩
  replace hs := hs.o zo (apart w0 gy (by omega)) (apart w1' gy (by omega))
  replace hc := hc.o zo (apart w2' gy (by omega))
  replace x0 := x0.o zo (fun h => by have := gy _ h; omega)
  replace v0 := v0.o zo (fun h => by have := gy _ h; omega)
  replace hL := hL.o zo (apart hLw gy (by omega))
  replace hG := hG.o zo (apart' gg gy (by omega))
  replace b0 := b0.trans (zo.below b0.size fun x hx => by have := gy x hx; omega)
  replace ug := fun b h => zo.unf b (ug b h)
  have q16 := zo.size
  clear zo hy uy
  have m3 : ¬ ((1 : Int) + (cnt_SignalSet d : Nat) + (cnt_SignalCellS xs : Nat) < 0) := by omega
  go_wp2_with fail
  refine (eqSignalCellS_any _ aG aL _ kG _ kL fg fl L L hG.c hL.c hG.w hL.w).mono ?_
  rintro e w17 ⟨rfl, z1⟩
  rw [show decide (L = L) = true from by simp]
  replace hs := hs.b z1
  replace hc := hc.b z1
  replace x0 := x0.b z1
  replace v0 := v0.b z1
  replace hL := hL.b z1
  replace hG := hG.b z1
  replace b0 := b0.trans (z1.mono b0.size)
  replace ug := unf_b ug z1
  have q17 := z1.size
  clear z1
  go_wp2_with fail
  have ce := hlen
  refine (markSignalCellS_any _ aG _ kG fg L 1 hG.c ndg ug (by omega) (by omega)).mono ?_
  rintro e w18 ⟨rfl, hM, zo⟩
  have hMw : Within fg 0 w18.heap.size := hG.w.wide (Nat.le_refl _) zo.size
  replace hs := hs.o zo (apart w0 gg (by omega)) (apart w1' gg (by omega))
  replace hc := hc.o zo (apart w2' gg (by omega))
  replace x0 := x0.o zo (fun h => by have := gg _ h; omega)
  replace v0 := v0.o zo (fun h => by have := gg _ h; omega)
  replace hL := hL.o zo (apart hLw gg (by omega))
  replace b0 := b0.trans (zo.below b0.size fun x hx => by have := gg x hx; omega)
  clear zo hG ug m3
  go_wp2_with fail
  refine (heldSignalCellS_any _ aG _ kG fg L 1 hM hMw (by omega) (by omega)).mono ?_
  rintro e w19 ⟨rfl, z1⟩
  replace hM : CellsIn w19 aG L.length kG fg (mk_SignalCellS L 1) := ⟨hM.kb hMw z1, hMw.wide (Nat.le_refl _) z1.size⟩
  replace hs := hs.b z1
  replace hc := hc.b z1
  replace x0 := x0.b z1
  replace v0 := v0.b z1
  replace hL := hL.b z1
  replace b0 := b0.trans (z1.mono b0.size)
  clear z1 hMw
  have m4 : ¬ ((1 : Int) + (cnt_SignalCellS L : Nat) < 0) := by omega
  go_wp2_with fail
  -- another call
  have zD : Below w19.heap.size w19 w19.drew := (Below.refl _ _).drew
  replace hs := hs.b zD
  replace hc := hc.b zD
  replace x0 := x0.b zD
  replace v0 := v0.b zD
  replace hL := hL.b zD
  replace hM := hM.b zD
  replace b0 := b0.trans (zD.mono b0.size)
  clear zD
  go_region_held3 (fun w' => w'.cell? ⟨w.heap.size, 0, none⟩ = some (.slice A0 n0 c0) ∧ w'.cell? ⟨w.heap.size, 1, none⟩ = some (.slice A1 n1 c1) ∧ w'.cell? ⟨w.heap.size + 1, 0, none⟩ = some (.int .i64 ev.g_Kind) ∧ w'.cell? ⟨w.heap.size + 1, 1, none⟩ = some (.int .i64 ev.g_At.g_X) ∧ w'.cell? ⟨w.heap.size + 1, 2, none⟩ = some (.int .i64 ev.g_At.g_Y) ∧ w'.cell? ⟨w.heap.size + 1, 3, none⟩ = some (.int .i64 ev.g_Num))
    (first | exact ⟨x0.c0, x0.c1, v0.c0, v0.c1, v0.c2, v0.c3⟩ | exact ⟨x4.c0, x4.c1, v4.c0, v4.c1, v4.c2, v4.c3⟩ | exact ⟨x3.c0, x3.c1, v3.c0, v3.c1, v3.c2, v3.c3⟩ | exact ⟨x2.c0, x2.c1, v2.c0, v2.c1, v2.c2, v2.c3⟩ | exact ⟨x1.c0, x1.c1, v1.c0, v1.c1, v1.c2, v1.c3⟩)
    (first | (go_at_call 9; refine (toSignalSet_any _ d A0 n0 c0 f0 hs.g hs.gw A1 n1 c1 f1 hs.t hs.tw ls).mono ?_; rintro e w20 ⟨fp, a0, k0, a1, k1, rfl, hR, hF, z1⟩; obtain ⟨g0, g1, rfl, hu1⟩ := SetIn.of_R hR hF; have hs1 := hs.b z1; have hc1 := hc.b z1; have x1 := x0.b z1; have v1 := v0.b z1; have hL1 := hL.b z1; have hM1 := hM.b z1; clear hR hF) | (go_at_call 10; refine (toSignalCellS_any _ A2 n2 c2 f2 xs hc1.c hc1.w lc).mono ?_; rintro e w21 ⟨fq, a2, k2, rfl, hR, hF, z2⟩; have hv2 : CellsIn w21 a2 xs.length k2 fq xs := ⟨hR, hF.within.wide (Nat.zero_le _) (Nat.le_refl _)⟩; have hs2 := hs1.b z2; have hc2 := hc1.b z2; have hu2 := hu1.b z2; have x2 := x1.b z2; have v2 := v1.b z2; have hL2 := hL1.b z2; have hM2 := hM1.b z2; clear hR hF) | (go_at_call 20; refine (toSignalEvent_any _ ev).mono ?_; rintro e w21b ⟨rfl, z3⟩; have hv3 := hv2.b z3; have hs3 := hs2.b z3; have hc3 := hc2.b z3; have hu3 := hu2.b z3; have x3 := x2.b z3; have v3 := v2.b z3; have hL3 := hL2.b z3; have hM3 := hM2.b z3;) | (go_at_call 21; refine (V.play_any d temp xs ev _ _ ip _ a0 _ k0 g0 hu3.g hu3.gw a1 _ k1 g1 hu3.t hu3.tw a2 _ k2 fq hv3.c hv3.w).mono ?_; rintro e w22 ⟨fh, aH, kH, rfl, hH0, hFH, z4⟩; have hs4 := hs3.b z4; have hc4 := hc3.b z4; have x4 := x3.b z4; have v4 := v3.b z4; have hL4 := hL3.b z4; have hM4 := hM3.b z4;))
  replace b0 := (((b0.trans (z1.mono b0.size)).trans (z2.mono (b0.trans (z1.mono b0.size)).size)).trans (z3.mono ((b0.trans (z1.mono b0.size)).trans (z2.mono (b0.trans (z1.mono b0.size)).size)).size)).trans (z4.mono (((b0.trans (z1.mono b0.size)).trans (z2.mono (b0.trans (z1.mono b0.size)).size)).trans (z3.mono ((b0.trans (z1.mono b0.size)).trans (z2.mono (b0.trans (z1.mono b0.size)).size)).size)).size)
  have hH : CellsIn w22 aH L.length kH fh L := ⟨hH0, hFH.within.wide (Nat.zero_le _) (Nat.le_refl _)⟩
  replace hL := hL4
  replace hM := hM4
  clear z1 z2 z3 z4 hs1 hs2 hs3 hs4 hc1 hc2 hc3 hc4 x1 x2 x3 x4 v1 v2 v3 v4 hu1 hu2 hu3 hv2 hv3 hH0 hFH hL1 hL2 hL3 hL4 hM1 hM2 hM3 hM4 x0 v0 hs hc
  go_wp2_with fail
  refine (eqSignalCellS_any _ aH aL _ kH _ kL fh fl L L hH.c hL.c hH.w hL.w).mono ?_
  rintro e w23 ⟨rfl, z1⟩
  rw [show decide (L = L) = true from by simp]
  replace hM := hM.b z1
  replace b0 := b0.trans (z1.mono b0.size)
  clear z1 hH hL
  go_wp2_with fail
  refine (heldSignalCellS_any _ aG _ kG fg L 1 hM.c hM.w (by omega) (by omega)).mono ?_
  rintro e w24 ⟨rfl, z1⟩
  replace b0 := b0.trans (z1.mono b0.size)
  clear z1 hM
  go_wp2_with fail
  go_ret
  exact ⟨rfl, b0⟩

end Go.Proofs.YtpbniieiinhliaaGreat
