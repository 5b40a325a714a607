/- EventsOf, both sides, as contracts of the machine. -/
import Derived.Test.YtpbniieiinhliaaGreatRnS
import Derived.Test.YtpbniieiinhliaaGreatRnN
import Derived.Test.YtpbniieiinhliaaGreatRnE
import Derived.Test.YtpbniieiinhliaaGreatRnF
import Derived.Test.YtpbniieiinhliaaGreatRnD
import Derived.Test.YtpbniieiinhliaaGreatChecked
import Derived.ProofKit
import Derived.Deep.Slices
import Derived.ChangeSame
import Derived.Test.YtpbniieiinhliaaGreatRnL
import Derived.Test.YtpbniieiinhliaaGreatRnO
import Derived.Deep.RegionHeld3
import Derived.StillTailTactics
set_option linter.unusedVariables false
set_option linter.unusedSimpArgs false
namespace Go.Proofs.YtpbniieiinhliaaGreat.V
open Go.RowKit

variable {P : Program} {w w' : World} {D : Nat → Prop} {ι : Names}

theorem boolS_imm {f : List Nat} {v : Value} {xs : List Bool} (h : S_BoolS w f v xs) (hD : ∀ b ∈ f, D b) : Imm P w D (.sl (xs.map eBool)) v := flat_imm flatBool (fun _ => rfl) h hD
theorem cells_imm {f : List Nat} {v : Value} {xs : List D_SignalCell} (h : S_SignalCellS w f v xs) (hD : ∀ b ∈ f, D b) : Imm P w D (.sl (xs.map eCell)) v :=
  slof_imm h hD (fun _ _ => rfl) (fun x _ a ha => by simp [eCell] at ha; rcases ha with rfl | rfl | rfl | rfl | rfl | rfl <;> rfl) fun x _ f' cs hr hf => by
    obtain ⟨v3, v4, v5, f3, f4, f5, rfl, rfl, h3, h4, h5⟩ := hr
    have d3 : ∀ b ∈ f3, D b := fun b hb => hf b (by simp [hb])
    have d4 : ∀ b ∈ f4, D b := fun b hb => hf b (by simp [hb])
    have d5 : ∀ b ∈ f5, D b := fun b hb => hf b (by simp [hb])
    intro j a ha
    match j, ha with
    | 0, ha => simp [eCell] at ha; subst ha; exact ⟨_, rfl, .int _ _⟩
    | 1, ha => simp [eCell] at ha; subst ha; exact ⟨_, rfl, .int _ _⟩
    | 2, ha => simp [eCell] at ha; subst ha; exact ⟨_, rfl, .int _ _⟩
    | 3, ha => simp [eCell] at ha; subst ha; exact ⟨_, rfl, boolS_imm h3 d3⟩
    | 4, ha => simp [eCell] at ha; subst ha; exact ⟨_, rfl, boolS_imm h4 d4⟩
    | 5, ha => simp [eCell] at ha; subst ha; exact ⟨_, rfl, boolS_imm h5 d5⟩
    | j + 6, ha => simp [eCell] at ha
theorem tiles_imm {f : List Nat} {v : Value} {xs : List D_SignalTile} (h : S_SignalTileS w f v xs) (hD : ∀ b ∈ f, D b) : Imm P w D (.sl (xs.map eTile)) v :=
  slof_imm h hD (fun _ _ => rfl) (fun x _ a ha => by simp [eTile] at ha; rcases ha with rfl | rfl | rfl | rfl <;> rfl) fun x _ f' cs hr hf => by
    obtain ⟨v1, v2, v3, f1, f2, f3, rfl, rfl, h1, h2, h3⟩ := hr
    have d1 : ∀ b ∈ f1, D b := fun b hb => hf b (by simp [hb])
    have d2 : ∀ b ∈ f2, D b := fun b hb => hf b (by simp [hb])
    have d3 : ∀ b ∈ f3, D b := fun b hb => hf b (by simp [hb])
    intro j a ha
    match j, ha with
    | 0, ha => simp [eTile] at ha; subst ha; exact ⟨_, rfl, .str _⟩
    | 1, ha => simp [eTile] at ha; subst ha; exact ⟨_, rfl, flat_imm flatInt (fun _ => rfl) h1 d1⟩
    | 2, ha => simp [eTile] at ha; subst ha; exact ⟨_, rfl, boolS_imm h2 d2⟩
    | 3, ha => simp [eTile] at ha; subst ha; exact ⟨_, rfl, flat_imm flatFire (fun _ => rfl) h3 d3⟩
    | j + 4, ha => simp [eTile] at ha
theorem set_imm {f0 f1 : List Nat} {v0 v1 : Value} {d : D_SignalSet} (h0 : S_GlueS w f0 v0 d.g_Glues) (h1 : S_SignalTileS w f1 v1 d.g_Tiles) (d0 : ∀ b ∈ f0, D b) (d1 : ∀ b ∈ f1, D b) : Imm P w D (.agg (eSet d)) (.agg #[v0, v1]) := by
  refine .agg _ _ (fun j => if j = 0 then v0 else v1) rfl (fun a ha => by simp [eSet] at ha; rcases ha with rfl | rfl <;> rfl) (fun j hj => ?_) (fun j a ha => ?_)
  · have : j = 0 ∨ j = 1 := by simp [eSet] at hj; omega
    rcases this with rfl | rfl <;> rfl
  · match j, ha with
    | 0, ha => simp [eSet] at ha; subst ha; exact flat_imm flatGlue (fun _ => rfl) h0 d0
    | 1, ha => simp [eSet] at ha; subst ha; exact tiles_imm h1 d1
    | j + 2, ha => simp [eSet] at ha

end Go.Proofs.YtpbniieiinhliaaGreat.V

namespace Go.Proofs.YtpbniieiinhliaaGreat
open Go.ChangeShapes Go.WideShapes Go.ChangeAt Go.RowKit Go.Deep

section
variable {H : Type} {enc : TypeId × Value → H} {P : Program} {w : World}

theorem SlOf.mk_at {α : Type} {rep : World → List Nat → List Value → α → Prop} {sz : Nat} {w : World} {b o len cap : Nat} (css : Nat → List Value) (fs : Nat → List Nat) (ds : Nat → α) (hc : len ≤ cap) (hm : cap ≤ maxLen)
    (hl : ∀ i, i < len → (css i).length = sz) (hr : ∀ i, i < len → rep w (fs i) (css i) (ds i)) (hat : ∀ i, i < len → ∀ j u, (css i)[j]? = some u → w.cell? ⟨b, o + (i * sz + j), none⟩ = some u) :
    SlOf rep sz w ([b] ++ ((List.range len).map fs).flatten) (.slice (some ⟨b, o, none⟩) len cap) ((List.range len).map ds) := by
  refine ⟨(List.range len).map css, (List.range len).map fs, [b], rfl, ⟨some ⟨b, o, none⟩, cap, by simp, by simpa using hc, hm, .inr ⟨b, o, rfl, rfl, fun j u hj => ?_⟩⟩, by simp, by simp, fun i cs f d h1 h2 h3 => ?_⟩
  · have hlen : ∀ cs ∈ (List.range len).map css, cs.length = sz := fun cs hcs => by
      obtain ⟨i, hi, rfl⟩ := List.mem_map.1 hcs
      exact hl i (List.mem_range.1 hi)
    have hjl := (List.getElem?_eq_some_iff.1 hj).1
    have hfl : ((List.range len).map css).flatten.length = len * sz := by
      rw [List.length_flatten, List.map_map]
      have : ∀ (l : List Nat), (∀ i ∈ l, i < len) → (l.map (List.length ∘ css)).sum = l.length * sz := by
        intro l
        induction l with
        | nil => intro _; simp
        | cons a l ih => intro h; rw [List.map_cons, List.sum_cons, ih fun i hi => h i (List.mem_cons_of_mem _ hi)]; simp only [Function.comp, hl a (h a (by simp)), List.length_cons, Nat.add_mul]; omega
      rw [this _ fun i hi => List.mem_range.1 hi, List.length_range]
    rw [hfl] at hjl
    have hs0 : 0 < sz := by
      rcases Nat.eq_zero_or_pos sz with h | h
      · subst h; simp at hjl
      · exact h
    have hi : j / sz < len := (Nat.div_lt_iff_lt_mul hs0).2 hjl
    have hm2 : j % sz < sz := Nat.mod_lt _ hs0
    have hje : j = (j / sz) * sz + j % sz := by rw [Nat.mul_comm]; exact (Nat.div_add_mod j sz).symm
    rw [hje, flatten_get hlen (i := j / sz) (cs := css (j / sz)) (by simp [hi]) hm2] at hj
    rw [hje]
    have := hat (j / sz) hi (j % sz) u hj
    rw [← hje] at this ⊢
    exact this
  · have hi : i < len := by
      have := (List.getElem?_eq_some_iff.1 h1).1
      simpa using this
    simp [hi] at h1 h2 h3
    subst h1 h2 h3
    exact ⟨hr i hi, hl i hi⟩

theorem add_mk (b o k : Nat) : (⟨b, o, none⟩ : Addr).add k = ⟨b, o + k, none⟩ := by
  unfold Addr.add; split
  · rename_i h; subst h; rfl
  · rfl
theorem trod_slof {α : Type} {rep : World → List Nat → List Value → α → Prop} {Q : α → Prop} {t e : TypeId} {sz fuel : Nat} {cs : List Value} {x : DataW H × List MemPlace} (ht : P.underlying t = some (.slice e)) (hC : P.cellsOf e = sz) (hs0 : 0 < sz)
    (h : DataW.trod enc P w 0 (fun _ => true) true fuel t cs = some x) (hel : ∀ n cs' y, cs'.length = sz → DataW.trod enc P w 0 (fun _ => true) true n e cs' = some y → ∃ f d, Within f 0 w.heap.size ∧ rep w f cs' d ∧ Q d) :
    ∃ A n c f xs, cs = [.slice A n c] ∧ Within f 0 w.heap.size ∧ SlOf rep sz w f (.slice A n c) xs ∧ ∀ d ∈ xs, Q d := by
  rcases open_slice ht h with ⟨rfl, _⟩ | ⟨a, len, cap, m, n, D, Pl, rfl, _, hl, hm, hmm, _, hi⟩
  · exact ⟨none, 0, 0, [], [], rfl, Within.nil _ _, SlOf.nil _ _ _, fun d h => by cases h⟩
  rw [hC] at hi
  simp only [if_true] at hmm
  by_cases h0 : len = 0
  · subst h0
    exact ⟨some a, 0, cap, [], [], rfl, Within.nil _ _, ⟨[], [], [], rfl, ⟨some a, cap, rfl, Nat.zero_le _, hm, .inl ⟨rfl, rfl⟩⟩, rfl, rfl, fun i cs f d hc => by simp at hc⟩, fun d h => by cases h⟩
  obtain ⟨b, o, sp⟩ := a
  have cell0 : ∃ v, w.cell? ⟨b, o, sp⟩ = some v := by
    obtain ⟨cs', hc, _⟩ := hi 0 (by omega)
    obtain ⟨_, hcl, hat⟩ := World.cells?_some hc
    refine ⟨cs'[0]'(by omega), ?_⟩
    have := hat 0 hs0
    rw [List.getElem?_eq_getElem (by omega)] at this
    simpa [Addr.add] using this
  obtain ⟨v0, hv0⟩ := cell0
  have hb : b < w.heap.size := World.block_lt_of_cell? w _ hv0
  have hsp : sp = none := by
    unfold World.cell? at hv0
    split at hv0
    · split at hv0
      · cases hv0
      · rename_i h; simpa using h
    · cases hv0
  subst hsp
  have key : ∀ i, i < len → ∃ cs' f d, cs'.length = sz ∧ Within f 0 w.heap.size ∧ rep w f cs' d ∧ Q d ∧ ∀ j u, cs'[j]? = some u → w.cell? ⟨b, o + (i * sz + j), none⟩ = some u := fun i hil => by
    obtain ⟨cs', hc, htr⟩ := hi i (by omega)
    obtain ⟨_, hcl, hat⟩ := World.cells?_some hc
    obtain ⟨f, d, h1, h2, h3⟩ := hel n cs' _ hcl htr
    refine ⟨cs', f, d, hcl, h1, h2, h3, fun j u hj => ?_⟩
    have hjl := (List.getElem?_eq_some_iff.1 hj).1
    have := hat j (by omega)
    rw [hj] at this
    rw [← this, Go.Deep.add_add, add_mk]
  have : Nonempty α := by
    obtain ⟨_, _, d, _⟩ := key 0 (by omega)
    exact ⟨d⟩
  let cf : Nat → List Value := fun i => if hi : i < len then (key i hi).choose else []
  let ff : Nat → List Nat := fun i => if hi : i < len then (key i hi).choose_spec.choose else []
  let df : Nat → α := fun i => if hi : i < len then (key i hi).choose_spec.choose_spec.choose else Classical.choice this
  have hall : ∀ i, i < len → (cf i).length = sz ∧ Within (ff i) 0 w.heap.size ∧ rep w (ff i) (cf i) (df i) ∧ Q (df i) ∧ ∀ j u, (cf i)[j]? = some u → w.cell? ⟨b, o + (i * sz + j), none⟩ = some u := fun i hi => by
    have := (key i hi).choose_spec.choose_spec.choose_spec
    simp only [cf, ff, df, dif_pos hi]
    exact this
  refine ⟨some ⟨b, o, none⟩, len, cap, _, (List.range len).map df, rfl, ?_, SlOf.mk_at cf ff df hl hm (fun i hi => (hall i hi).1) (fun i hi => (hall i hi).2.2.1) (fun i hi => (hall i hi).2.2.2.2), fun d hd => ?_⟩
  · intro x hx
    rcases List.mem_append.1 hx with hx | hx
    · simp at hx; subst hx; exact ⟨Nat.zero_le _, hb⟩
    · obtain ⟨l, hlm, hxl⟩ := List.mem_flatten.1 hx
      obtain ⟨i, hi, rfl⟩ := List.mem_map.1 hlm
      exact (hall i (List.mem_range.1 hi)).2.1 x hxl
  · obtain ⟨i, hi, rfl⟩ := List.mem_map.1 hd
    exact (hall i (List.mem_range.1 hi)).2.2.2.1
end

section
variable {H : Type} {enc : TypeId × Value → H} {w : World} {fuel : Nat} {cs : List Value} {x : DataW H × List MemPlace}
abbrev TT (enc : TypeId × Value → H) (w : World) (fuel t : Nat) (cs : List Value) (x : DataW H × List MemPlace) : Prop := DataW.trod enc Tryz.prog w 0 (fun _ => true) true fuel t cs = some x

theorem o_bools (h : TT enc w fuel 67 cs x) : ∃ A n c f xs, cs = [.slice A n c] ∧ Within f 0 w.heap.size ∧ S_BoolS w f (.slice A n c) xs := by
  obtain ⟨A, n, c, f, xs, h1, h2, h3, _⟩ := trod_slof (rep := R_Bool) (Q := fun _ => True) Tryz.underlying67 (sz := 1) (by kernel_rfl) (by omega) h fun n cs' y hl hy => by
    obtain ⟨b, rfl, _⟩ := DataW.trod_bool Tryz.underlying4 hy
    exact ⟨[], b, Within.nil _ _, ⟨rfl, rfl⟩, trivial⟩
  exact ⟨A, n, c, f, xs, h1, h2, h3⟩
theorem o_ints (h : TT enc w fuel 57 cs x) : ∃ A n c f xs, cs = [.slice A n c] ∧ Within f 0 w.heap.size ∧ S_Int64S w f (.slice A n c) xs := by
  obtain ⟨A, n, c, f, xs, h1, h2, h3, _⟩ := trod_slof (rep := R_Int64) (Q := fun _ => True) Tryz.underlying57 (sz := 1) (by kernel_rfl) (by omega) h fun n cs' y hl hy => by
    obtain ⟨b, rfl, _⟩ := DataW.trod_int Tryz.underlying2 hy
    exact ⟨[], b, Within.nil _ _, ⟨rfl, rfl⟩, trivial⟩
  exact ⟨A, n, c, f, xs, h1, h2, h3⟩

/-- A struct's field. -/
theorem o_field {t : TypeId} {fs : Array Field} (ht : Tryz.prog.underlying t = some (.struct fs)) (h : TT enc w fuel t cs x) : cs.length = Tryz.prog.cellsOf t ∧ ∃ n, ∀ (i : Nat) (f : Field), fs[i]? = some f → ∃ y, TT enc w n f.type ((cs.drop f.offset).take (Tryz.prog.cellsOf f.type)) y := by
  obtain ⟨xs, n, _, _, hl, hxl, hf⟩ := DataW.trod_struct ht h
  refine ⟨hl, n, fun i f hi => ?_⟩
  have hil : i < xs.length := by rw [hxl]; exact (Array.getElem?_eq_some_iff.1 hi).1
  exact ⟨xs[i], (hf i f hi).trans (List.getElem?_eq_getElem hil)⟩

theorem len2 {l : List Value} (h : l.length = 2) : ∃ a b, l = [a, b] := by
  match l, h with
  | [a, b], _ => exact ⟨a, b, rfl⟩
theorem len4 {l : List Value} (h : l.length = 4) : ∃ a b c d, l = [a, b, c, d] := by
  match l, h with
  | [a, b, c, d], _ => exact ⟨a, b, c, d, rfl⟩
theorem len6 {l : List Value} (h : l.length = 6) : ∃ a b c d e g, l = [a, b, c, d, e, g] := by
  match l, h with
  | [a, b, c, d, e, g], _ => exact ⟨a, b, c, d, e, g, rfl⟩
set_option maxRecDepth 100000 in
theorem o_fires (h : TT enc w fuel 106 cs x) : ∃ A n c f xs, cs = [.slice A n c] ∧ Within f 0 w.heap.size ∧ S_FireS w f (.slice A n c) xs := by
  obtain ⟨A, n, c, f, xs, h1, h2, h3, _⟩ := trod_slof (rep := R_Fire) (Q := fun _ => True) Tryz.underlying106 (sz := 2) (by kernel_rfl) (by omega) h fun n cs' y hl hy => by
    obtain ⟨_, m, hf⟩ := o_field Tryz.underlying178 hy
    obtain ⟨a, b, rfl⟩ := len2 hl
    · skip
      obtain ⟨y0, h0⟩ := hf 0 _ rfl
      obtain ⟨y1, h1⟩ := hf 1 _ rfl
      rw [show Tryz.prog.cellsOf _ = 1 from by kernel_rfl] at h0 h1
      obtain ⟨p, e0, _⟩ := DataW.trod_int Tryz.underlying2 h0
      obtain ⟨q, e1, _⟩ := DataW.trod_int Tryz.underlying2 h1
      simp at e0 e1
      subst e0 e1
      exact ⟨[], ⟨p, q⟩, Within.nil _ _, ⟨rfl, rfl⟩, trivial⟩
  exact ⟨A, n, c, f, xs, h1, h2, h3⟩
set_option maxRecDepth 100000 in
theorem o_glues (h : TT enc w fuel 22 cs x) : ∃ A n c f xs, cs = [.slice A n c] ∧ Within f 0 w.heap.size ∧ S_GlueS w f (.slice A n c) xs ∧ Ok_GlueS xs := by
  exact trod_slof (rep := R_Glue) (Q := Ok_Glue) Tryz.underlying22 (sz := 2) (by kernel_rfl) (by omega) h fun n cs' y hl hy => by
    obtain ⟨_, m, hf⟩ := o_field Tryz.underlying104 hy
    obtain ⟨a, b, rfl⟩ := len2 hl
    · skip
      obtain ⟨y0, h0⟩ := hf 0 _ rfl
      obtain ⟨y1, h1⟩ := hf 1 _ rfl
      rw [show Tryz.prog.cellsOf _ = 1 from by kernel_rfl] at h0 h1
      obtain ⟨p, e0, _, ws⟩ := DataW.trod_string Tryz.underlying9 h0
      obtain ⟨q, e1, _⟩ := DataW.trod_int Tryz.underlying2 h1
      simp at e0 e1
      subst e0 e1
      exact ⟨[], ⟨p, q⟩, Within.nil _ _, ⟨rfl, rfl⟩, by simpa [Ok_Glue, maxLen] using ws⟩
set_option maxRecDepth 100000 in
theorem o_tiles (h : TT enc w fuel 23 cs x) : ∃ A n c f xs, cs = [.slice A n c] ∧ Within f 0 w.heap.size ∧ S_SignalTileS w f (.slice A n c) xs ∧ Ok_SignalTileS xs := by
  exact trod_slof (rep := R_SignalTile) (Q := Ok_SignalTile) Tryz.underlying23 (sz := 4) (by kernel_rfl) (by omega) h fun n cs' y hl hy => by
    obtain ⟨_, m, hf⟩ := o_field Tryz.underlying108 hy
    obtain ⟨a, b, c, d, rfl⟩ := len4 hl
    · skip
      obtain ⟨y0, h0⟩ := hf 0 _ rfl
      obtain ⟨y1, h1⟩ := hf 1 _ rfl
      obtain ⟨y2, h2⟩ := hf 2 _ rfl
      obtain ⟨y3, h3⟩ := hf 3 _ rfl
      rw [show Tryz.prog.cellsOf _ = 1 from by kernel_rfl] at h0 h1 h2 h3
      obtain ⟨p, e0, _, ws⟩ := DataW.trod_string Tryz.underlying9 h0
      obtain ⟨A1, n1, c1, f1, xs1, e1, k1, s1⟩ := o_ints h1
      obtain ⟨A2, n2, c2, f2, xs2, e2, k2, s2⟩ := o_bools h2
      obtain ⟨A3, n3, c3, f3, xs3, e3, k3, s3⟩ := o_fires h3
      simp at e0 e1 e2 e3
      subst e0 e1 e2 e3
      exact ⟨_, ⟨p, xs1, xs2, xs3⟩, k1.app (k2.app k3), ⟨_, _, _, f1, f2, f3, rfl, rfl, s1, s2, s3⟩, by simpa [Ok_SignalTile, maxLen] using ws⟩
set_option maxRecDepth 100000 in
theorem o_cells (h : TT enc w fuel 26 cs x) : ∃ A n c f xs, cs = [.slice A n c] ∧ Within f 0 w.heap.size ∧ S_SignalCellS w f (.slice A n c) xs := by
  obtain ⟨A, n, c, f, xs, h1, h2, h3, _⟩ := trod_slof (rep := R_SignalCell) (Q := fun _ => True) Tryz.underlying26 (sz := 6) (by kernel_rfl) (by omega) h fun n cs' y hl hy => by
    obtain ⟨_, m, hf⟩ := o_field Tryz.underlying69 hy
    obtain ⟨a, b, c, d, e, g, rfl⟩ := len6 hl
    · skip
      obtain ⟨y0, h0⟩ := hf 0 _ rfl
      obtain ⟨y1, h1⟩ := hf 1 _ rfl
      obtain ⟨y2, h2⟩ := hf 2 _ rfl
      obtain ⟨y3, h3⟩ := hf 3 _ rfl
      obtain ⟨y4, h4⟩ := hf 4 _ rfl
      rw [show Tryz.prog.cellsOf _ = 2 from by kernel_rfl] at h0
      rw [show Tryz.prog.cellsOf _ = 1 from by kernel_rfl] at h1 h2 h3 h4
      obtain ⟨_, m2, hf2⟩ := o_field Tryz.underlying47 h0
      obtain ⟨z0, g0⟩ := hf2 0 _ rfl
      obtain ⟨z1, g1⟩ := hf2 1 _ rfl
      rw [show Tryz.prog.cellsOf _ = 1 from by kernel_rfl] at g0 g1
      obtain ⟨px, e0, _⟩ := DataW.trod_int Tryz.underlying2 g0
      obtain ⟨py, e1, _⟩ := DataW.trod_int Tryz.underlying2 g1
      obtain ⟨ti, e2, _⟩ := DataW.trod_int Tryz.underlying2 h1
      obtain ⟨A1, n1, c1, f1, xs1, e3, k1, s1⟩ := o_bools h2
      obtain ⟨A2, n2, c2, f2, xs2, e4, k2, s2⟩ := o_bools h3
      obtain ⟨A3, n3, c3, f3, xs3, e5, k3, s3⟩ := o_bools h4
      simp at e0 e1 e2 e3 e4 e5
      subst e0 e1 e2 e3 e4 e5
      exact ⟨_, ⟨⟨px, py⟩, ti, xs1, xs2, xs3⟩, k1.app (k2.app k3), ⟨_, _, _, f1, f2, f3, rfl, rfl, s1, s2, s3⟩, trivial⟩
  exact ⟨A, n, c, f, xs, h1, h2, h3⟩
set_option maxRecDepth 100000 in
theorem o_set (h : TT enc w fuel 25 cs x) : ∃ A0 n0 c0 f0 A1 n1 c1 f1, ∃ d : D_SignalSet, cs = [.slice A0 n0 c0, .slice A1 n1 c1] ∧ Within f0 0 w.heap.size ∧ S_GlueS w f0 (.slice A0 n0 c0) d.g_Glues ∧ Within f1 0 w.heap.size ∧ S_SignalTileS w f1 (.slice A1 n1 c1) d.g_Tiles ∧ Ok_SignalSet d := by
  obtain ⟨hl, m, hf⟩ := o_field Tryz.underlying25 h
  rw [show Tryz.prog.cellsOf _ = 2 from by kernel_rfl] at hl
  obtain ⟨a, b, rfl⟩ := len2 hl
  · skip
    obtain ⟨y0, h0⟩ := hf 0 _ rfl
    obtain ⟨y1, h1⟩ := hf 1 _ rfl
    rw [show Tryz.prog.cellsOf _ = 1 from by kernel_rfl] at h0 h1
    obtain ⟨A1, n1, c1, f1, xs1, e1, k1, s1, o1⟩ := o_glues h0
    obtain ⟨A2, n2, c2, f2, xs2, e2, k2, s2, o2⟩ := o_tiles h1
    simp at e1 e2
    subst e1 e2
    exact ⟨A1, n1, c1, f1, A2, n2, c2, f2, ⟨xs1, xs2⟩, rfl, k1, s1, k2, s2, o1, o2⟩
end
end Go.Proofs.YtpbniieiinhliaaGreat

namespace Go.Proofs.YtpbniieiinhliaaGreat.V
open Go.RowKit

variable {P : Program} {w w' : World} {D : Nat → Prop} {ι : Names}

end Go.Proofs.YtpbniieiinhliaaGreat.V

namespace Go.Proofs.YtpbniieiinhliaaGreat.V
open Go.RowKit

variable {P : Program} {w w' : World} {D : Nat → Prop} {ι : Names}

theorem repL_five {a b c d e : AV} {x y z u v : Value} (h1 : Rep P w D ι a x) (h2 : Rep P w D ι b y) (h3 : Rep P w D ι c z) (h4 : Rep P w D ι d u) (h5 : Rep P w D ι e v) : RepL P w D ι [a, b, c, d, e] #[x, y, z, u, v] := by
  refine ⟨rfl, fun j r hj => ?_⟩
  match j, hj with
  | 0, hj => simp at hj; subst hj; exact ⟨x, rfl, h1⟩
  | 1, hj => simp at hj; subst hj; exact ⟨y, rfl, h2⟩
  | 2, hj => simp at hj; subst hj; exact ⟨z, rfl, h3⟩
  | 3, hj => simp at hj; subst hj; exact ⟨u, rfl, h4⟩
  | 4, hj => simp at hj; subst hj; exact ⟨v, rfl, h5⟩
  | j + 5, hj => simp at hj

theorem run_any {f : Nat} (d : D_SignalSet) (temp : Int) (xs : List D_SignalCell) (sch : List Int) (steps : Int) (out : List D_SignalCell × Nat × Int) (hc : ∀ σ, Call Tryz.prog f [.agg (eSet d), .int .i64 temp, .sl (xs.map eCell), .sl (sch.map eInt), .int .i64 steps] σ (RunK out)) (w : World) (A0 : Option Addr) (n0 c0 : Nat) (f0 : List Nat) (h0 : S_GlueS w f0 (.slice A0 n0 c0) d.g_Glues) (k0 : Within f0 0 w.heap.size)
    (A1 : Option Addr) (n1 c1 : Nat) (f1 : List Nat) (h1 : S_SignalTileS w f1 (.slice A1 n1 c1) d.g_Tiles) (k1 : Within f1 0 w.heap.size) (A2 : Option Addr) (n2 c2 : Nat) (f2 : List Nat) (h2 : S_SignalCellS w f2 (.slice A2 n2 c2) xs) (k2 : Within f2 0 w.heap.size) (A3 : Option Addr) (n3 c3 : Nat) (f3 : List Nat) (h3 : S_Int64S w f3 (.slice A3 n3 c3) sch) (k3 : Within f3 0 w.heap.size) :
    Calls Tryz.prog f #[.agg #[.slice A0 n0 c0, .slice A1 n1 c1], .int .i64 temp, .slice A2 n2 c2, .slice A3 n3 c3, .int .i64 steps] w fun e w' => ∃ fp A' c', e = .returned (.tuple #[.slice A' out.1.length c', .int .i64 (out.2.1 : Int), .int .i64 out.2.2]) ∧ S_SignalCellS w' fp (.slice A' out.1.length c') out.1 ∧ Fresh w w' fp ∧ Below w.heap.size w w' := by
  have hs := call_sound mixed (hc ⟨fun _ => none, 0⟩) w.heap.size (fun b => b < w.heap.size) (fun _ => none) w #[.agg #[.slice A0 n0 c0, .slice A1 n1 c1], .int .i64 temp, .slice A2 n2 c2, .slice A3 n3 c3, .int .i64 steps]
    ⟨Nat.le_refl _, fun _ h => h, fun id r h => (by cases h), fun id id' r r' B B' h => (by cases h)⟩ (fun id h => absurd rfl h)
    (repL_five (.imm _ _ (set_imm h0 h1 (fun b hb => (k0 b hb).2) fun b hb => (k1 b hb).2)) (.imm _ _ (.int _ _)) (.imm _ _ (cells_imm h2 fun b hb => (k2 b hb).2)) (.imm _ _ (flat_imm flatInt (fun _ => rfl) h3 fun b hb => (k3 b hb).2)) (.imm _ _ (.int _ _)))
  refine hs.mono ?_
  rintro e w' ⟨r, g', n', D', ι', u, rfl, ⟨x, ids, rfl, hO, hnd⟩, hst, hsim, _, _, hrep⟩
  obtain ⟨vs, fv, rfl, hsz, hv, hr⟩ := rep_tup hrep
  have e0 := hv 0 (by simp)
  have e1 := hv 1 (by simp)
  have e2 := hv 2 (by simp)
  have r0 := hr 0 _ rfl
  have r1 := rep_int (hr 1 _ rfl)
  have r2 := rep_int (hr 2 _ rfl)
  obtain ⟨l⟩ := vs
  obtain ⟨p, q, z, rfl⟩ : ∃ p q z, l = [p, q, z] := by
    match l, hsz with
    | [p, q, z], _ => exact ⟨p, q, z, rfl⟩
  simp at e0 e1 e2
  rw [← e0] at r0
  rw [← e1] at r1
  rw [← e2] at r2
  subst r1 r2
  have hS := cells_slof hsim hO r0
  obtain ⟨A', c', rfl, _, _⟩ := SlOf.len hS
  exact ⟨_, A', c', rfl, hS, ids_fresh hsim (OwnN.live cellOk hO) hnd, hst.below⟩

/-- What RunSignals answers is small. -/
theorem run_len {d : D_SignalSet} {temp : Int} {xs : List D_SignalCell} {sch : List Int} {steps : Int} : cnt_SignalCellS (runA d temp xs sch steps).1 ≤ 1000000 := by
  have key : ∀ l : List D_SignalCell, CellsOk d l → cnt_SignalCellS l ≤ 1000000 := by
    intro l ho
    have h : ∀ m : List D_SignalCell, (∀ c ∈ m, c.g_On.length = 4 ∧ c.g_Bound.length = 4 ∧ c.g_Fired.length ≤ 6) → cnt_SignalCellS m ≤ 17 * m.length := by
      intro m
      induction m with
      | nil => intro _; exact Nat.zero_le _
      | cons c m ih =>
        intro hm
        have h1 := ih fun x hx => hm x (List.mem_cons_of_mem _ hx)
        have h2 := hm c (by simp)
        have o1 : ∀ l : List Bool, cnt_BoolS l = l.length := fun l => by
          induction l with
          | nil => rfl
          | cons a l ih => show 1 + cnt_BoolS l = _; rw [ih, List.length_cons]; omega
        have h3 : cnt_SignalCellS (c :: m) = (1 + 1 + 1 + cnt_BoolS c.g_On + cnt_BoolS c.g_Bound + cnt_BoolS c.g_Fired) + cnt_SignalCellS m := rfl
        rw [h3, o1, o1, o1, List.length_cons]; omega
    have := h l fun c hc => ⟨(ho.form c hc).on, (ho.form c hc).bound, ho.six c hc⟩
    have := ho.few
    omega
  unfold runA
  split
  · rename_i h0
    split
    · obtain ⟨hok, ht⟩ := ask_ok h0
      rcases run_small (inB_true ht).1 (sch := sch) steps.toNat 0 xs hok with h | h
      · exact key _ h
      · rw [h]; exact Nat.zero_le _
    · exact Nat.zero_le _
  · exact Nat.zero_le _

end Go.Proofs.YtpbniieiinhliaaGreat.V

namespace Go.Proofs.YtpbniieiinhliaaGreat
open Go.RowKit

theorem wt_all {α : Type} (f : α → Nat) : ∀ (l : List α) (x : α), x ∈ l → f x ≤ (l.map f).sum
  | [], _, h => by cases h
  | a :: l, x, h => by
    rw [List.map_cons, List.sum_cons]
    rcases List.mem_cons.1 h with rfl | h
    · omega
    · have := wt_all f l x h; omega
theorem small_set {d : D_SignalSet} (h : wt_SignalSet d ≤ 1048576) : V.SmallSet d ∧ V.SmallNames d ∧ Len_SignalSet d := by
  unfold wt_SignalSet wt_GlueS wt_SignalTileS at h
  have ht : ∀ t ∈ d.g_Tiles, wt_SignalTile t ≤ 1048576 := fun t ht => by
    have : wt_SignalTile t ≤ (d.g_Tiles.map fun d => wt_SignalTile d).sum := wt_all _ _ _ ht
    omega
  have ht' : ∀ t ∈ d.g_Tiles, t.g_Name.size ≤ 1048576 ∧ t.g_Sides.length ≤ 1048576 ∧ t.g_On.length ≤ 1048576 ∧ t.g_Fires.length ≤ 1048576 := fun t htm => by
    have := ht t htm
    unfold wt_SignalTile wt_Int64S wt_BoolS wt_FireS at this
    omega
  refine ⟨⟨by omega, by omega, fun t htm => (ht' t htm).2.1⟩, ⟨fun g hg => ?_, fun t htm => (ht' t htm).1⟩, ⟨by unfold Len_GlueS; omega, by omega, fun k hk => ?_⟩⟩
  · have h1 : wt_Glue g ≤ (d.g_Glues.map fun d => wt_Glue d).sum := wt_all _ _ _ hg
    have h2 : wt_Glue g = g.g_Name.size := rfl
    omega
  · have := ht' _ (List.getElem_mem hk)
    exact ⟨this.2.1, this.2.2.1, this.2.2.2⟩
theorem small_cells {xs : List D_SignalCell} (h : wt_SignalCellS xs ≤ 1048576) : Len_SignalCellS xs := by
  unfold wt_SignalCellS at h
  refine ⟨by omega, fun k hk => ?_⟩
  have h1 : wt_SignalCell xs[k] ≤ (xs.map fun d => wt_SignalCell d).sum := wt_all _ _ _ (List.getElem_mem hk)
  have h2 : wt_SignalCell xs[k] = xs[k].g_On.length + (xs[k].g_Bound.length + xs[k].g_Fired.length) := rfl
  exact ⟨by unfold Len_BoolS; omega, by unfold Len_BoolS; omega, by unfold Len_BoolS; omega⟩

theorem sum_le {α : Type} (f g : α → Nat) (a b : Nat) (h : ∀ x, f x ≤ a + b * g x) : ∀ l : List α, (l.map f).sum ≤ a * l.length + b * (l.map g).sum
  | [] => by simp
  | x :: l => by
    have h1 := h x
    have h2 := sum_le f g a b h l
    simp only [List.map_cons, List.sum_cons, List.length_cons, Nat.mul_add, Nat.mul_one]
    omega
theorem one_sum {α : Type} (f : α → Nat) (a : Nat) (h : ∀ x, f x = a) : ∀ l : List α, (l.map f).sum = a * l.length
  | [] => by simp
  | x :: l => by rw [List.map_cons, List.sum_cons, one_sum f a h l, h x, List.length_cons, Nat.mul_add]; omega
theorem cnt_set {d : D_SignalSet} (h : wt_SignalSet d ≤ 1048576) : cnt_SignalSet d ≤ 4194304 := by
  have h1 : cnt_GlueS d.g_Glues = 2 * d.g_Glues.length := one_sum _ 2 (fun _ => rfl) _
  have h2 : cnt_SignalTileS d.g_Tiles ≤ 1 * d.g_Tiles.length + 2 * (d.g_Tiles.map fun d => wt_SignalTile d).sum := sum_le _ _ 1 2 (fun t => by
    have e1 : cnt_Int64S t.g_Sides = 1 * t.g_Sides.length := one_sum _ 1 (fun _ => rfl) _
    have e2 : cnt_BoolS t.g_On = 1 * t.g_On.length := one_sum _ 1 (fun _ => rfl) _
    have e3 : cnt_FireS t.g_Fires = 2 * t.g_Fires.length := one_sum _ 2 (fun _ => rfl) _
    show 1 + cnt_Int64S t.g_Sides + cnt_BoolS t.g_On + cnt_FireS t.g_Fires ≤ 1 + 2 * (t.g_Name.size + (t.g_Sides.length + (t.g_On.length + t.g_Fires.length)))
    omega) _
  unfold wt_SignalSet wt_GlueS wt_SignalTileS at h
  unfold cnt_SignalSet
  omega
theorem cnt_cells {xs : List D_SignalCell} (h : wt_SignalCellS xs ≤ 1048576) : cnt_SignalCellS xs ≤ 4194304 := by
  have h2 : cnt_SignalCellS xs ≤ 3 * xs.length + 1 * (xs.map fun d => wt_SignalCell d).sum := sum_le _ _ 3 1 (fun t => by
    have e1 : cnt_BoolS t.g_On = 1 * t.g_On.length := one_sum _ 1 (fun _ => rfl) _
    have e2 : cnt_BoolS t.g_Bound = 1 * t.g_Bound.length := one_sum _ 1 (fun _ => rfl) _
    have e3 : cnt_BoolS t.g_Fired = 1 * t.g_Fired.length := one_sum _ 1 (fun _ => rfl) _
    show 1 + 1 + 1 + cnt_BoolS t.g_On + cnt_BoolS t.g_Bound + cnt_BoolS t.g_Fired ≤ 3 + 1 * (t.g_On.length + (t.g_Bound.length + t.g_Fired.length))
    omega) _
  unfold wt_SignalCellS at h
  omega
theorem unf_b {w w' : World} {f : List Nat} (h : ∀ b ∈ f, Unf w b) (hb : Below w.heap.size w w') : ∀ b ∈ f, Unf w' b := fun b hm => (h b hm).same (hb.block b (h b hm).lt)

/-! ### What lies in a world -/
structure SetIn (w : World) (A0 : Option Addr) (n0 c0 : Nat) (f0 : List Nat) (A1 : Option Addr) (n1 c1 : Nat) (f1 : List Nat) (d : D_SignalSet) : Prop where
  g : S_GlueS w f0 (.slice A0 n0 c0) d.g_Glues
  gw : Within f0 0 w.heap.size
  t : S_SignalTileS w f1 (.slice A1 n1 c1) d.g_Tiles
  tw : Within f1 0 w.heap.size
structure CellsIn (w : World) (A : Option Addr) (n c : Nat) (f : List Nat) (xs : List D_SignalCell) : Prop where
  c : S_SignalCellS w f (.slice A n c) xs
  w : Within f 0 w.heap.size
structure EvIn (w : World) (A : Option Addr) (n c : Nat) (f : List Nat) (L : List D_SignalEvent) : Prop where
  e : S_SignalEventS w f (.slice A n c) L
  w : Within f 0 w.heap.size
structure Box2 (w : World) (b : Nat) (x y : Value) : Prop where
  c0 : w.cell? ⟨b, 0, none⟩ = some x
  c1 : w.cell? ⟨b, 1, none⟩ = some y
variable {w w' : World}
theorem SetIn.b {A0 n0 c0 f0 A1 n1 c1 f1 d} (h : SetIn w A0 n0 c0 f0 A1 n1 c1 f1 d) (hb : Below w.heap.size w w') : SetIn w' A0 n0 c0 f0 A1 n1 c1 f1 d :=
  ⟨h.g.kb h.gw hb, h.gw.wide (Nat.le_refl _) hb.size, h.t.kb h.tw hb, h.tw.wide (Nat.le_refl _) hb.size⟩
theorem CellsIn.b {A n c f xs} (h : CellsIn w A n c f xs) (hb : Below w.heap.size w w') : CellsIn w' A n c f xs := ⟨h.c.kb h.w hb, h.w.wide (Nat.le_refl _) hb.size⟩
theorem EvIn.b {A n c f L} (h : EvIn w A n c f L) (hb : Below w.heap.size w w') : EvIn w' A n c f L := ⟨h.e.kb h.w hb, h.w.wide (Nat.le_refl _) hb.size⟩
theorem Box2.b {b x y} (h : Box2 w b x y) (hb : Below w.heap.size w w') : Box2 w' b x y :=
  ⟨(hb.cell (p := ⟨b, 0, none⟩) (World.block_lt_of_cell? w _ h.c0)).trans h.c0, (hb.cell (p := ⟨b, 1, none⟩) (World.block_lt_of_cell? w _ h.c1)).trans h.c1⟩

theorem apart {a b : List Nat} {lo hi lo' hi' : Nat} (ha : Within a lo hi) (hb : Within b lo' hi') (h : hi ≤ lo') : ∀ x ∈ a, x ∉ b := fun x hx hy => by
  have := ha x hx
  have := hb x hy
  omega
theorem apart' {a b : List Nat} {lo hi lo' hi' : Nat} (ha : Within a lo hi) (hb : Within b lo' hi') (h : hi' ≤ lo) : ∀ x ∈ a, x ∉ b := fun x hx hy => by
  have := ha x hx
  have := hb x hy
  omega
theorem SetIn.o {f : List Nat} {A0 n0 c0 f0 A1 n1 c1 f1 d} (h : SetIn w A0 n0 c0 f0 A1 n1 c1 f1 d) (ho : Only f w w') (h0 : ∀ x ∈ f0, x ∉ f) (h1 : ∀ x ∈ f1, x ∉ f) : SetIn w' A0 n0 c0 f0 A1 n1 c1 f1 d :=
  ⟨h.g.same (ho.same h0 fun x hx => (h.gw x hx).2), h.gw.wide (Nat.le_refl _) ho.size, h.t.same (ho.same h1 fun x hx => (h.tw x hx).2), h.tw.wide (Nat.le_refl _) ho.size⟩
theorem CellsIn.o {f : List Nat} {A n c fp xs} (h : CellsIn w A n c fp xs) (ho : Only f w w') (h0 : ∀ x ∈ fp, x ∉ f) : CellsIn w' A n c fp xs := ⟨h.c.same (ho.same h0 fun x hx => (h.w x hx).2), h.w.wide (Nat.le_refl _) ho.size⟩
theorem EvIn.o {f : List Nat} {A n c fp L} (h : EvIn w A n c fp L) (ho : Only f w w') (h0 : ∀ x ∈ fp, x ∉ f) : EvIn w' A n c fp L := ⟨h.e.same (ho.same h0 fun x hx => (h.w x hx).2), h.w.wide (Nat.le_refl _) ho.size⟩
theorem Box2.o {f : List Nat} {b x y} (h : Box2 w b x y) (ho : Only f w w') (h0 : b ∉ f) : Box2 w' b x y := by
  have hb := ho.block b (World.block_lt_of_cell? w _ h.c0) h0
  exact ⟨(cell_same hb).trans h.c0, (cell_same hb).trans h.c1⟩
theorem SetIn.of_R {fp : List Nat} {A0 n0 c0 A1 n1 c1} {d : D_SignalSet} (h : R_SignalSet w' fp [.slice A0 n0 c0, .slice A1 n1 c1] d) (hF : Fresh w w' fp) : ∃ f0 f1, fp = f0 ++ f1 ∧ SetIn w' A0 n0 c0 f0 A1 n1 c1 f1 d := by
  obtain ⟨v0, v1, f0, f1, rfl, hv, s0, s1⟩ := h
  simp at hv
  obtain ⟨rfl, rfl⟩ := hv
  exact ⟨f0, f1, rfl, s0, hF.within.left.wide (Nat.zero_le _) (Nat.le_refl _), s1, hF.within.right.wide (Nat.zero_le _) (Nat.le_refl _)⟩
end Go.Proofs.YtpbniieiinhliaaGreat

namespace Go.Proofs.YtpbniieiinhliaaGreat
open Go.RowKit

/-- What stays while only new memory is made. -/
structure Bd (p : World → Prop) (w : World) : Prop where
  x : ∀ w', Below w.heap.size w w' → p w'
theorem Bd.b {p : World → Prop} {w w' : World} (x : Bd p w) (z : Below w.heap.size w w') : Bd p w' := ⟨fun _ y => x.x _ (z.trans (y.mono z.size))⟩
theorem Bd.h {p : World → Prop} {w : World} (x : Bd p w) : p w := x.x _ (Below.refl _ _)
theorem Bd.and {p q : World → Prop} {w : World} (x : Bd p w) (y : Bd q w) : Bd (fun w => q w ∧ p w) w := ⟨fun _ z => ⟨y.x _ z, x.x _ z⟩⟩
theorem bd0 (w : World) : Bd (fun w' => Below w.heap.size w w') w := ⟨fun _ z => z⟩
structure IntsIn (w : World) (A : Option Addr) (n c : Nat) (f : List Nat) (xs : List Int) : Prop where
  c : S_Int64S w f (.slice A n c) xs
  w : Within f 0 w.heap.size
theorem IntsIn.b {w w' : World} {A n c f xs} (h : IntsIn w A n c f xs) (hb : Below w.heap.size w w') : IntsIn w' A n c f xs := ⟨h.c.kb h.w hb, h.w.wide (Nat.le_refl _) hb.size⟩
theorem IntsIn.o {w w' : World} {f : List Nat} {A n c fp xs} (h : IntsIn w A n c fp xs) (ho : Only f w w') (h0 : ∀ x ∈ fp, x ∉ f) : IntsIn w' A n c fp xs := ⟨h.c.same (ho.same h0 fun x hx => (h.w x hx).2), h.w.wide (Nat.le_refl _) ho.size⟩
theorem SetIn.k {w : World} {A0 n0 c0 f0 A1 n1 c1 f1 d} (h : SetIn w A0 n0 c0 f0 A1 n1 c1 f1 d) : Bd (fun w => SetIn w A0 n0 c0 f0 A1 n1 c1 f1 d) w := ⟨fun _ z => h.b z⟩
theorem CellsIn.k {w : World} {A n c f xs} (h : CellsIn w A n c f xs) : Bd (fun w => CellsIn w A n c f xs) w := ⟨fun _ z => h.b z⟩
theorem IntsIn.k {w : World} {A n c f xs} (h : IntsIn w A n c f xs) : Bd (fun w => IntsIn w A n c f xs) w := ⟨fun _ z => h.b z⟩
theorem Box2.k {w : World} {b u v} (h : Box2 w b u v) : Bd (fun w => Box2 w b u v) w := ⟨fun _ z => h.b z⟩
theorem CellsIn.new {w w' : World} {A n c f xs} (h : S_SignalCellS w' f (.slice A n c) xs) (hF : Fresh w w' f) : CellsIn w' A n c f xs := ⟨h, hF.within.wide (Nat.zero_le _) (Nat.le_refl _)⟩
theorem IntsIn.new {w w' : World} {A n c f xs} (h : S_Int64S w' f (.slice A n c) xs) (hF : Fresh w w' f) : IntsIn w' A n c f xs := ⟨h, hF.within.wide (Nat.zero_le _) (Nat.le_refl _)⟩
theorem cnt_ints (L : List Int) : cnt_Int64S L = 1 * L.length := one_sum _ 1 (fun _ => rfl) _

set_option maxRecDepth 100000 in
set_option maxHeartbeats 4000000 in
theorem law_run (w : World) (A0 : Option Addr) (n0 c0 : Nat) (f0 : List Nat) (A1 : Option Addr) (n1 c1 : Nat) (f1 : List Nat) (d : D_SignalSet) (hs : SetIn w A0 n0 c0 f0 A1 n1 c1 f1 d) (ok : Ok_SignalSet d) (temp : Int)
    (A2 : Option Addr) (n2 c2 : Nat) (f2 : List Nat) (xs : List D_SignalCell) (hc : CellsIn w A2 n2 c2 f2 xs) (A3 : Option Addr) (n3 c3 : Nat) (f3 : List Nat) (sch : List Int) (hi : IntsIn w A3 n3 c3 f3 sch) (steps : Int) :
    Calls Tryz.prog 5 #[.agg #[.slice A0 n0 c0, .slice A1 n1 c1], .int .i64 temp, .slice A2 n2 c2, .slice A3 n3 c3, .int .i64 steps] w fun e w' => e = .returned (.bool true) ∧ Below w.heap.size w w' := by
  have w0 : Within f0 0 w.heap.size := hs.gw
  have w1 : Within f1 0 w.heap.size := hs.tw
  have w2 : Within f2 0 w.heap.size := hc.w
  have w3 : Within f3 0 w.heap.size := hi.w
  obtain ⟨rfl, _, _⟩ := SlOf.n_eq hi.c
  have hk := ((((bd0 w).and hi.k).and hc.k).and hs.k).b ((Below.refl _ _).alloc (Nat.le_refl _) (.cells #[.slice A0 n0 c0, .slice A1 n1 c1] 25))
  replace hk := hk.and (Box2.k (b := w.heap.size) (u := .slice A0 n0 c0) (v := .slice A1 n1 c1) ⟨by simp [go_sem], by simp [go_sem]⟩)
  clear hs hc hi
  go_enter Tryz.func5, Tryz.ntmps5
  by_cases h3 : (1048576 : Int) < (sch.length : Int)
  · go_wp2_with fail
    go_ret
    exact ⟨rfl, hk.h.2.2.2.2⟩
  have p0 := hk.h.1.c0
  have p1 := hk.h.1.c1
  go_wp2_with fail
  clear p0 p1
  refine (szSignalSet_any _ d 1048576 A0 n0 c0 f0 hk.h.2.1.g hk.h.2.1.gw A1 n1 c1 f1 hk.h.2.1.t hk.h.2.1.tw (by omega) (by omega) ok).mono ?_
  rintro e w4 ⟨rfl, z⟩
  replace hk := hk.b z
  clear z
  rcases szR_cases (wt_SignalSet d) 1048576 with ⟨e1, l1⟩ | ⟨e1, l1⟩
  case inr =>
    rw [e1]
    go_wp2_with fail
    go_ret
    exact ⟨rfl, hk.h.2.2.2.2⟩
  obtain ⟨ss, sn, ls⟩ := small_set (d := d) (by omega)
  have m1 : ¬ ((1048576 : Int) - (wt_SignalSet d : Int) < 0) := by omega
  rw [e1]
  go_wp2_with fail
  refine (szSignalCellS_any _ A2 n2 c2 f2 xs (1048576 - (wt_SignalSet d : Int)) hk.h.2.2.1.c hk.h.2.2.1.w (by omega) (by omega)).mono ?_
  rintro e w5 ⟨rfl, z⟩
  replace hk := hk.b z
  clear z
  rcases szR_cases (wt_SignalCellS xs) (1048576 - (wt_SignalSet d : Int)) with ⟨e2, l2⟩ | ⟨e2, l2⟩
  case inr =>
    rw [e2]
    go_wp2_with fail
    go_ret
    exact ⟨rfl, hk.h.2.2.2.2⟩
  have lc := small_cells (xs := xs) (by omega)
  have li : Len_Int64S sch := by unfold Len_Int64S; omega
  have m2 : ¬ ((1048576 : Int) - (wt_SignalSet d : Int) - (wt_SignalCellS xs : Int) < 0) := by omega
  rw [e2]
  have p0 := hk.h.1.c0
  have p1 := hk.h.1.c1
  go_wp2_with fail
  clear p0 p1
  have cs1 := cnt_set (d := d) (by omega)
  have cs2 := cnt_cells (xs := xs) (by omega)
  have cs3 : cnt_Int64S sch ≤ 1048576 := by rw [cnt_ints]; unfold Len_Int64S at li; omega
  clear e1 e2 m1 m2 l1 l2
  obtain ⟨o, sp, ip, hlen⟩ : ∃ o : List D_SignalCell × Nat × Int, (∀ σ, V.Call Tryz.prog 23 [.agg (V.eSet d), .int .i64 temp, .sl (xs.map V.eCell), .sl (sch.map V.eInt), .int .i64 steps] σ (V.RunK o)) ∧ (∀ σ, V.Call Tryz.prog 25 [.agg (V.eSet d), .int .i64 temp, .sl (xs.map V.eCell), .sl (sch.map V.eInt), .int .i64 steps] σ (V.RunK o)) ∧ cnt_SignalCellS o.1 ≤ 1000000 :=
    ⟨V.runA d temp xs sch steps, V.sRunSignals_v d temp xs sch steps ss sn, V.iRunSignals_v d temp xs sch steps ss sn, V.run_len⟩
  obtain ⟨L, k1, k2⟩ := o
  -- the reference's call
  refine (toSignalSet_any _ d A0 n0 c0 f0 hk.h.2.1.g hk.h.2.1.gw A1 n1 c1 f1 hk.h.2.1.t hk.h.2.1.tw ls).mono ?_
  rintro e w6 ⟨fp, a0, j0, a1, j1, rfl, hR, hF, z⟩
  obtain ⟨g0, g1, rfl, hu⟩ := SetIn.of_R hR hF
  have ht := hu.k
  replace hk := hk.b z
  clear z hR hF hu
  go_wp2_with fail
  refine (toSignalCellS_any _ A2 n2 c2 f2 xs hk.h.2.2.1.c hk.h.2.2.1.w lc).mono ?_
  rintro e w7 ⟨fq, a2, j2, rfl, hR, hF, z⟩
  have ht2 := (ht.b z).and (CellsIn.new hR hF).k
  replace hk := hk.b z
  clear z hR hF ht
  go_wp2_with fail
  refine (toInt64S_any _ A3 _ c3 f3 sch hk.h.2.2.2.1.c hk.h.2.2.2.1.w li).mono ?_
  rintro e w8 ⟨fi, a3, j3, rfl, hR, hF, z⟩
  have ht := (ht2.b z).and (IntsIn.new hR hF).k
  replace hk := hk.b z
  clear z hR hF ht2
  go_wp2_with fail
  refine (V.run_any d temp xs sch steps _ sp _ a0 _ j0 g0 ht.h.2.2.g ht.h.2.2.gw a1 _ j1 g1 ht.h.2.2.t ht.h.2.2.tw a2 _ j2 fq ht.h.2.1.c ht.h.2.1.w a3 _ j3 fi ht.h.1.c ht.h.1.w).mono ?_
  rintro e w9 ⟨fl, aL, jL, rfl, hR, hF, z⟩
  have hL := CellsIn.new hR hF
  have hLw : Within fl 0 w9.heap.size := hL.w
  replace hk := hk.b z
  have q9 : w.heap.size < w9.heap.size := World.block_lt_of_cell? _ _ hk.h.1.c0
  replace hk := hk.and hL.k
  clear z hR hF ht hL
  -- the program's arguments
  have p0 := hk.h.2.1.c0
  have p1 := hk.h.2.1.c1
  go_wp2_with fail
  clear p0 p1
  refine (toSignalSet_any _ d A0 n0 c0 f0 hk.h.2.2.1.g hk.h.2.2.1.gw A1 n1 c1 f1 hk.h.2.2.1.t hk.h.2.2.1.tw ls).mono ?_
  rintro e w10 ⟨fp, a0, j0, a1, j1, rfl, hR, hFx, z⟩
  obtain ⟨g0, g1, rfl, hu⟩ := SetIn.of_R hR hFx
  replace hk := ((hk.b z).and (bd0 w10)).and hu.k
  have q10 := z.size
  clear z hR hu
  go_wp2_with fail
  obtain ⟨w11, hw⟩ : ∃ w11, w11 = w10.alloc (.cells #[.slice a0 d.g_Glues.length j0, .slice a1 d.g_Tiles.length j1] 35) := ⟨_, rfl⟩
  rw [← hw]
  have z : Below w10.heap.size w10 w11 := by rw [hw]; exact (Below.refl _ _).alloc (Nat.le_refl _) _
  have y0 : Box2 w11 w10.heap.size (.slice a0 d.g_Glues.length j0) (.slice a1 d.g_Tiles.length j1) := by rw [hw]; exact ⟨by simp [go_sem], by simp [go_sem]⟩
  have q11 : w11.heap.size = w10.heap.size + 1 := by rw [hw]; simp [go_sem]
  replace hk := (hk.b z).and y0.k
  clear z hw y0
  refine (toSignalCellS_any _ A2 n2 c2 f2 xs hk.h.2.2.2.2.2.2.1.c hk.h.2.2.2.2.2.2.1.w lc).mono ?_
  rintro e w12 ⟨fq, a2, j2, rfl, hR, hFy, z⟩
  replace hk := ((hk.b z).and (bd0 w12)).and (CellsIn.new hR hFy).k
  have q12 := z.size
  clear z hR
  go_wp2_with fail
  refine (toInt64S_any _ A3 _ c3 f3 sch hk.h.2.2.2.2.2.2.2.2.2.1.c hk.h.2.2.2.2.2.2.2.2.2.1.w li).mono ?_
  rintro e w13 ⟨fi, a3, j3, rfl, hR, hFz, z⟩
  replace hk := ((hk.b z).and (bd0 w13)).and (IntsIn.new hR hFz).k
  have q13 := z.size
  clear z hR
  -- the program's call
  have p0 := hk.h.2.2.2.2.1.c0
  have p1 := hk.h.2.2.2.2.1.c1
  go_wp2_with fail
  clear p0 p1
  refine (V.run_any d temp xs sch steps _ ip _ a0 _ j0 g0 hk.h.2.2.2.2.2.1.g hk.h.2.2.2.2.2.1.gw a1 _ j1 g1 hk.h.2.2.2.2.2.1.t hk.h.2.2.2.2.2.1.tw a2 _ j2 fq hk.h.2.2.1.c hk.h.2.2.1.w a3 _ j3 fi hk.h.1.c hk.h.1.w).mono ?_
  rintro e w14 ⟨fg, aG, jG, rfl, hR, hFg, z⟩
  replace hk := ((hk.b z).and (bd0 w14)).and (CellsIn.new hR hFg).k
  have q14 := z.size
  clear z hR
  go_wp2_with fail
  refine (eqSignalCellS_any _ aG aL _ jG _ jL fg fl L L hk.h.1.c hk.h.2.2.2.2.2.2.2.2.2.1.c hk.h.1.w hk.h.2.2.2.2.2.2.2.2.2.1.w).mono ?_
  rintro e w15 ⟨rfl, z⟩
  rw [show decide (L = L) = true from by simp]
  replace hk := hk.b z
  have q15 := z.size
  clear z
  go_wp2_with fail
  -- the arguments are as they were
  replace hk := hk.b (Below.refl _ _).drew
  have q15d : w15.heap.size ≤ w15.drew.heap.size := ((Below.refl w15.heap.size w15).drew).size
  go_region_held3 (fun w' => w'.cell? ⟨w10.heap.size, 0, none⟩ = some (.slice a0 d.g_Glues.length j0) ∧ w'.cell? ⟨w10.heap.size, 1, none⟩ = some (.slice a1 d.g_Tiles.length j1) ∧ w'.cell? ⟨w.heap.size, 0, none⟩ = some (.slice A0 n0 c0) ∧ w'.cell? ⟨w.heap.size, 1, none⟩ = some (.slice A1 n1 c1))
    (first | exact ⟨hk.h.2.2.2.2.2.2.1.c0, hk.h.2.2.2.2.2.2.1.c1, hk.h.2.2.2.2.2.2.2.2.2.2.1.c0, hk.h.2.2.2.2.2.2.2.2.2.2.1.c1⟩ | exact ⟨hk2.h.2.2.2.2.2.2.2.1.c0, hk2.h.2.2.2.2.2.2.2.1.c1, hk2.h.2.2.2.2.2.2.2.2.2.2.2.1.c0, hk2.h.2.2.2.2.2.2.2.2.2.2.2.1.c1⟩ | exact ⟨hk1.h.2.2.2.2.2.2.2.1.c0, hk1.h.2.2.2.2.2.2.2.1.c1, hk1.h.2.2.2.2.2.2.2.2.2.2.2.1.c0, hk1.h.2.2.2.2.2.2.2.2.2.2.2.1.c1⟩)
    (first | (go_at_call 9; refine (toSignalSet_any _ d A0 n0 c0 f0 hk.h.2.2.2.2.2.2.2.2.2.2.2.1.g hk.h.2.2.2.2.2.2.2.2.2.2.2.1.gw A1 n1 c1 f1 hk.h.2.2.2.2.2.2.2.2.2.2.2.1.t hk.h.2.2.2.2.2.2.2.2.2.2.2.1.tw ls).mono ?_; rintro e w16 ⟨fr, r0, s0, r1, s1, rfl, hR, hF, z1⟩; obtain ⟨t0, t1, rfl, hw⟩ := SetIn.of_R hR hF; have hk1 := (hk.b z1).and hw.k) | (go_at_call 13; refine (eqSignalSet_any _ d d a0 _ j0 g0 hk1.h.2.2.2.2.2.2.2.2.1.g hk1.h.2.2.2.2.2.2.2.2.1.gw a1 _ j1 g1 hk1.h.2.2.2.2.2.2.2.2.1.t hk1.h.2.2.2.2.2.2.2.2.1.tw r0 _ s0 t0 hw.g hw.gw r1 _ s1 t1 hw.t hw.tw).mono ?_; rintro e w17 ⟨rfl, z2⟩; have hk2 := hk1.b z2))
  have q17 : w15.drew.heap.size ≤ w17.heap.size := Nat.le_trans z1.size z2.size
  replace hk := (hk.b z1).b z2
  clear z1 z2 hk1 hk2 hw hR hF
  go_wp2_with fail
  refine (toSignalCellS_any _ A2 n2 c2 f2 xs hk.h.2.2.2.2.2.2.2.2.2.2.2.2.1.c hk.h.2.2.2.2.2.2.2.2.2.2.2.2.1.w lc).mono ?_
  rintro e w18 ⟨fr, r2, s2, rfl, hR, hF, z⟩
  have hv := CellsIn.new hR hF
  replace hk := hk.b z
  have q18 := z.size
  clear z hR hF
  go_wp2_with fail
  refine (eqSignalCellS_any _ a2 r2 _ j2 _ s2 fq fr xs xs hk.h.2.2.2.2.1.c hv.c hk.h.2.2.2.2.1.w hv.w).mono ?_
  rintro e w19 ⟨rfl, z⟩
  rw [show decide (xs = xs) = true from by simp]
  replace hk := hk.b z
  have q19 := z.size
  clear z hv
  go_wp2_with fail
  refine (toInt64S_any _ A3 _ c3 f3 sch hk.h.2.2.2.2.2.2.2.2.2.2.2.2.2.1.c hk.h.2.2.2.2.2.2.2.2.2.2.2.2.2.1.w li).mono ?_
  rintro e w20 ⟨fr, r2, s2, rfl, hR, hF, z⟩
  have hv := IntsIn.new hR hF
  replace hk := hk.b z
  have q20 := z.size
  clear z hR hF
  go_wp2_with fail
  refine (eqInt64S_any _ a3 r2 _ j3 _ s2 fi fr sch sch hk.h.2.2.1.c hv.c).mono ?_
  rintro e w21 ⟨rfl, z⟩
  rw [show decide (sch = sch) = true from by simp]
  replace hk := hk.b z.below
  clear z hv
  have p0 := hk.h.2.2.2.2.2.2.1.c0
  have p1 := hk.h.2.2.2.2.2.2.1.c1
  go_wp2_with fail
  clear p0 p1
  -- the arguments are written over
  obtain ⟨hG, k14, hz, k13, hy, k12, y0, hx, k10, hL, x0, hs, hc, hi, b0⟩ := hk.h
  obtain ⟨nd0, nd1, ndx⟩ := List.nodup_append.1 hFx.nodup
  have ux := unf_b hFx.unf k10
  have uy := unf_b hFy.unf k12
  have uz := unf_b hFz.unf k13
  have ug := unf_b hFg.unf k14
  have gx : Within (g0 ++ g1) w9.heap.size w10.heap.size := hFx.within
  have gy : Within fq w11.heap.size w12.heap.size := hFy.within
  have gz : Within fi w12.heap.size w13.heap.size := hFz.within
  have gg : Within fg w13.heap.size w14.heap.size := hFg.within
  have ndy := hFy.nodup
  have ndz := hFz.nodup
  have ndg := hFg.nodup
  clear hFx hFy hFz hFg k10 k12 k13 k14 y0 hk
  refine (markSignalSet_any _ d 1 a0 _ j0 g0 hx.g nd0 (fun x h => ux x (List.mem_append_left _ h)) a1 _ j1 g1 hx.t nd1 (fun x h => ux x (List.mem_append_right _ h)) (fun x h h' => ndx x h x h' rfl) (fun x h h' => ndx x h' x h rfl) (by omega) (by omega)).mono ?_
  rintro e w22 ⟨rfl, _, _, zo⟩
  clear nd0 nd1 ndx ux hx
  replace hs := hs.o zo (apart w0 gx (by omega)) (apart w1 gx (by omega))
  replace hc := hc.o zo (apart w2 gx (by omega))
  replace hi := hi.o zo (apart w3 gx (by omega))
  replace x0 := x0.o zo (fun h => by have := gx _ h; omega)
  replace hL := hL.o zo (apart hLw gx (by omega))
  replace hy := hy.o zo (apart' gy gx (by omega))
  replace hz := hz.o zo (apart' gz gx (by omega))
  replace hG := hG.o zo (apart' gg gx (by omega))
  replace b0 := b0.trans (zo.below b0.size fun x hx => by have := gx x hx; omega)
  replace uy := fun b h => zo.unf b (uy b h)
  replace uz := fun b h => zo.unf b (uz b h)
  replace ug := fun b h => zo.unf b (ug b h)
  clear zo
  go_wp2_with fail
  refine (markSignalCellS_any _ a2 _ j2 fq xs (1 + (cnt_SignalSet d : Nat)) hy.c ndy uy (by omega) (by omega)).mono ?_
  rintro e w23 ⟨rfl, _, zo⟩
  replace hs := hs.o zo (apart w0 gy (by omega)) (apart w1 gy (by omega))
  replace hc := hc.o zo (apart w2 gy (by omega))
  replace hi := hi.o zo (apart w3 gy (by omega))
  replace x0 := x0.o zo (fun h => by have := gy _ h; omega)
  replace hL := hL.o zo (apart hLw gy (by omega))
  replace hz := hz.o zo (apart' gz gy (by omega))
  replace hG := hG.o zo (apart' gg gy (by omega))
  replace b0 := b0.trans (zo.below b0.size fun x hx => by have := gy x hx; omega)
  replace uz := fun b h => zo.unf b (uz b h)
  replace ug := fun b h => zo.unf b (ug b h)
  clear zo hy uy
  go_wp2_with fail
  refine (markInt64S_any _ a3 _ j3 fi sch (1 + (cnt_SignalSet d : Nat) + (cnt_SignalCellS xs : Nat)) hz.c ndz uz (by omega) (by omega)).mono ?_
  rintro e w24 ⟨rfl, _, zo⟩
  replace hs := hs.o zo (apart w0 gz (by omega)) (apart w1 gz (by omega))
  replace hc := hc.o zo (apart w2 gz (by omega))
  replace hi := hi.o zo (apart w3 gz (by omega))
  replace x0 := x0.o zo (fun h => by have := gz _ h; omega)
  replace hL := hL.o zo (apart hLw gz (by omega))
  replace hG := hG.o zo (apart' gg gz (by omega))
  replace b0 := b0.trans (zo.below b0.size fun x hx => by have := gz x hx; omega)
  replace ug := fun b h => zo.unf b (ug b h)
  clear zo hz uz
  have m3 : ¬ ((1 : Int) + (cnt_SignalSet d : Nat) + (cnt_SignalCellS xs : Nat) + (cnt_Int64S sch : Nat) < 0) := by omega
  go_wp2_with fail
  refine (eqSignalCellS_any _ aG aL _ jG _ jL fg fl L L hG.c hL.c hG.w hL.w).mono ?_
  rintro e w25 ⟨rfl, z⟩
  rw [show decide (L = L) = true from by simp]
  replace hG := hG.b z
  replace ug := unf_b ug z
  replace gg : Within fg w13.heap.size w14.heap.size := gg
  have q25 := z.size
  obtain ⟨hL, x0, hs, hc, hi, b0⟩ := (((((((bd0 w).b b0).and hi.k).and hc.k).and hs.k).and x0.k).and hL.k |>.b z).h
  clear z m3
  go_wp2_with fail
  refine (markSignalCellS_any _ aG _ jG fg L 1 hG.c ndg ug (by omega) (by omega)).mono ?_
  rintro e w26 ⟨rfl, hM, zo⟩
  have hk := (((((bd0 w).b (b0.trans (zo.below b0.size fun x hx => by have := gg x hx; omega))).and (hi.o zo (apart w3 gg (by omega))).k).and (hc.o zo (apart w2 gg (by omega))).k).and (hs.o zo (apart w0 gg (by omega)) (apart w1 gg (by omega))).k).and (x0.o zo (fun h => by have := gg _ h; omega)).k
  replace hk := hk.and (hL.o zo (apart hLw gg (by omega))).k
  have hMw : Within fg 0 w26.heap.size := hG.w.wide (Nat.le_refl _) zo.size
  clear zo hG ug hs hc hi x0 hL b0
  go_wp2_with fail
  refine (heldSignalCellS_any _ aG _ jG fg L 1 hM hMw (by omega) (by omega)).mono ?_
  rintro e w27 ⟨rfl, z⟩
  replace hk := (hk.b z).and (CellsIn.k ⟨hM.kb hMw z, hMw.wide (Nat.le_refl _) z.size⟩)
  clear z hM hMw
  have m4 : ¬ ((1 : Int) + (cnt_SignalCellS L : Nat) < 0) := by omega
  have p0 := hk.h.2.2.1.c0
  have p1 := hk.h.2.2.1.c1
  go_wp2_with fail
  clear p0 p1
  -- another call
  refine (toSignalSet_any _ d A0 n0 c0 f0 hk.h.2.2.2.1.g hk.h.2.2.2.1.gw A1 n1 c1 f1 hk.h.2.2.2.1.t hk.h.2.2.2.1.tw ls).mono ?_
  rintro e w28 ⟨fp, a0, j0, a1, j1, rfl, hR, hF, z⟩
  obtain ⟨g0, g1, rfl, hu⟩ := SetIn.of_R hR hF
  have ht := hu.k
  replace hk := hk.b z
  clear z hR hF hu
  go_wp2_with fail
  refine (toSignalCellS_any _ A2 n2 c2 f2 xs hk.h.2.2.2.2.1.c hk.h.2.2.2.2.1.w lc).mono ?_
  rintro e w29 ⟨fq, a2, j2, rfl, hR, hF, z⟩
  have ht2 := (ht.b z).and (CellsIn.new hR hF).k
  replace hk := hk.b z
  clear z hR hF ht
  go_wp2_with fail
  refine (toInt64S_any _ A3 _ c3 f3 sch hk.h.2.2.2.2.2.1.c hk.h.2.2.2.2.2.1.w li).mono ?_
  rintro e w30 ⟨fi, a3, j3, rfl, hR, hF, z⟩
  have ht := (ht2.b z).and (IntsIn.new hR hF).k
  replace hk := hk.b z
  clear z hR hF ht2
  go_wp2_with fail
  refine (V.run_any d temp xs sch steps _ ip _ a0 _ j0 g0 ht.h.2.2.g ht.h.2.2.gw a1 _ j1 g1 ht.h.2.2.t ht.h.2.2.tw a2 _ j2 fq ht.h.2.1.c ht.h.2.1.w a3 _ j3 fi ht.h.1.c ht.h.1.w).mono ?_
  rintro e w31 ⟨fh, aH, jH, rfl, hR, hF, z⟩
  have hH := CellsIn.new hR hF
  replace hk := hk.b z
  clear z hR hF ht
  go_wp2_with fail
  refine (eqSignalCellS_any _ aH aL _ jH _ jL fh fl L L hH.c hk.h.2.1.c hH.w hk.h.2.1.w).mono ?_
  rintro e w32 ⟨rfl, z⟩
  rw [show decide (L = L) = true from by simp]
  replace hk := hk.b z
  clear z hH
  go_wp2_with fail
  refine (heldSignalCellS_any _ aG _ jG fg L 1 hk.h.1.c hk.h.1.w (by omega) (by omega)).mono ?_
  rintro e w33 ⟨rfl, z⟩
  replace hk := hk.b z
  clear z
  go_wp2_with fail
  go_ret
  exact ⟨rfl, hk.h.2.2.2.2.2.2⟩

end Go.Proofs.YtpbniieiinhliaaGreat
