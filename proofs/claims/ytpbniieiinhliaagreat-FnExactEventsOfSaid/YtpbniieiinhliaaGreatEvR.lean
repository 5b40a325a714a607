/- EventsOf, both sides, as contracts of the machine. -/
import Derived.Test.YtpbniieiinhliaaGreatEvQ
import Derived.Test.YtpbniieiinhliaaGreatEvM
import Derived.Test.YtpbniieiinhliaaGreatEvE
import Derived.Test.YtpbniieiinhliaaGreatEvF
import Derived.Test.YtpbniieiinhliaaGreatEvD
import Derived.Test.YtpbniieiinhliaaGreatChecked
import Derived.ProofKit
import Derived.Deep.Slices
import Derived.ChangeSame
import Derived.Deep.RegionHeld3
import Derived.StillTailTactics
set_option linter.unusedVariables false
set_option linter.unusedSimpArgs false
namespace Go.Proofs.YtpbniieiinhliaaGreat.V
open Go.RowKit

variable {P : Program} {w w' : World} {D : Nat → Prop} {ι : Names}

theorem boolS_imm {f : List Nat} {v : Value} {xs : List Bool} (h : S_BoolS w f v xs) (hD : ∀ b ∈ f, D b) : Imm P w D (.sl (xs.map eBool)) v := flat_imm flatBool (fun _ => rfl) h hD
theorem cells_imm {f : List Nat} {v : Value} {xs : List D_SignalCell} (h : S_SignalCellS w f v xs) (hD : ∀ b ∈ f, D b) : Imm P w D (.sl (xs.map eCell)) v :=
  slof_imm h hD (fun _ _ => rfl) (fun x _ a ha => by simp [eCell] at ha; rcases ha with rfl | rfl | rfl | rfl | rfl | rfl <;> rfl) fun x _ f' cs hr hf => by
    obtain ⟨v3, v4, v5, f3, f4, f5, rfl, rfl, h3, h4, h5⟩ := hr
    have d3 : ∀ b ∈ f3, D b := fun b hb => hf b (by simp [hb])
    have d4 : ∀ b ∈ f4, D b := fun b hb => hf b (by simp [hb])
    have d5 : ∀ b ∈ f5, D b := fun b hb => hf b (by simp [hb])
    intro j a ha
    match j, ha with
    | 0, ha => simp [eCell] at ha; subst ha; exact ⟨_, rfl, .int _ _⟩
    | 1, ha => simp [eCell] at ha; subst ha; exact ⟨_, rfl, .int _ _⟩
    | 2, ha => simp [eCell] at ha; subst ha; exact ⟨_, rfl, .int _ _⟩
    | 3, ha => simp [eCell] at ha; subst ha; exact ⟨_, rfl, boolS_imm h3 d3⟩
    | 4, ha => simp [eCell] at ha; subst ha; exact ⟨_, rfl, boolS_imm h4 d4⟩
    | 5, ha => simp [eCell] at ha; subst ha; exact ⟨_, rfl, boolS_imm h5 d5⟩
    | j + 6, ha => simp [eCell] at ha
theorem tiles_imm {f : List Nat} {v : Value} {xs : List D_SignalTile} (h : S_SignalTileS w f v xs) (hD : ∀ b ∈ f, D b) : Imm P w D (.sl (xs.map eTile)) v :=
  slof_imm h hD (fun _ _ => rfl) (fun x _ a ha => by simp [eTile] at ha; rcases ha with rfl | rfl | rfl | rfl <;> rfl) fun x _ f' cs hr hf => by
    obtain ⟨v1, v2, v3, f1, f2, f3, rfl, rfl, h1, h2, h3⟩ := hr
    have d1 : ∀ b ∈ f1, D b := fun b hb => hf b (by simp [hb])
    have d2 : ∀ b ∈ f2, D b := fun b hb => hf b (by simp [hb])
    have d3 : ∀ b ∈ f3, D b := fun b hb => hf b (by simp [hb])
    intro j a ha
    match j, ha with
    | 0, ha => simp [eTile] at ha; subst ha; exact ⟨_, rfl, .str _⟩
    | 1, ha => simp [eTile] at ha; subst ha; exact ⟨_, rfl, flat_imm flatInt (fun _ => rfl) h1 d1⟩
    | 2, ha => simp [eTile] at ha; subst ha; exact ⟨_, rfl, boolS_imm h2 d2⟩
    | 3, ha => simp [eTile] at ha; subst ha; exact ⟨_, rfl, flat_imm flatFire (fun _ => rfl) h3 d3⟩
    | j + 4, ha => simp [eTile] at ha
theorem set_imm {f0 f1 : List Nat} {v0 v1 : Value} {d : D_SignalSet} (h0 : S_GlueS w f0 v0 d.g_Glues) (h1 : S_SignalTileS w f1 v1 d.g_Tiles) (d0 : ∀ b ∈ f0, D b) (d1 : ∀ b ∈ f1, D b) : Imm P w D (.agg (eSet d)) (.agg #[v0, v1]) := by
  refine .agg _ _ (fun j => if j = 0 then v0 else v1) rfl (fun a ha => by simp [eSet] at ha; rcases ha with rfl | rfl <;> rfl) (fun j hj => ?_) (fun j a ha => ?_)
  · have : j = 0 ∨ j = 1 := by simp [eSet] at hj; omega
    rcases this with rfl | rfl <;> rfl
  · match j, ha with
    | 0, ha => simp [eSet] at ha; subst ha; exact flat_imm flatGlue (fun _ => rfl) h0 d0
    | 1, ha => simp [eSet] at ha; subst ha; exact tiles_imm h1 d1
    | j + 2, ha => simp [eSet] at ha

theorem scal_of_rep {a : AV} {u v : Value} (h : scal a = some u) (hr : Rep P w D ι a v) : v = u := by
  cases a with
  | int k n => simp [scal] at h; subst h; exact rep_int hr
  | bool b => simp [scal] at h; subst h; exact rep_bool hr
  | str s => simp [scal] at h; subst h; exact rep_str hr
  | _ => simp [scal] at h
theorem repL_three {a b c : AV} {x y z : Value} (h1 : Rep P w D ι a x) (h2 : Rep P w D ι b y) (h3 : Rep P w D ι c z) : RepL P w D ι [a, b, c] #[x, y, z] := by
  refine ⟨rfl, fun j u hj => ?_⟩
  match j, hj with
  | 0, hj => simp at hj; subst hj; exact ⟨x, rfl, h1⟩
  | 1, hj => simp at hj; subst hj; exact ⟨y, rfl, h2⟩
  | 2, hj => simp at hj; subst hj; exact ⟨z, rfl, h3⟩
  | j + 3, hj => simp at hj

/-- A call that answers events. -/
def EvK (s : D_SignalSet) (temp : Int) (cells : List D_SignalCell) (r : AV) (σ' : Store) : Prop := ∃ L code x, r = .tup [x, .int .i64 code] ∧ ((L = [] ∧ x = .nils) ∨ ∃ o : Id, x = .own o 0 L.length ∧ σ'.get o = some ⟨true, 4, L.map eEvent⟩) ∧ EvAns s temp cells L code

theorem ev_any {f : Nat} (d : D_SignalSet) (temp : Int) (xs : List D_SignalCell) (hc : ∀ σ, Call Tryz.prog f [.agg (eSet d), .int .i64 temp, .sl (xs.map eCell)] σ (EvK d temp xs)) (w : World) (A0 : Option Addr) (n0 c0 : Nat) (f0 : List Nat) (h0 : S_GlueS w f0 (.slice A0 n0 c0) d.g_Glues) (k0 : Within f0 0 w.heap.size)
    (A1 : Option Addr) (n1 c1 : Nat) (f1 : List Nat) (h1 : S_SignalTileS w f1 (.slice A1 n1 c1) d.g_Tiles) (k1 : Within f1 0 w.heap.size) (A2 : Option Addr) (n2 c2 : Nat) (f2 : List Nat) (h2 : S_SignalCellS w f2 (.slice A2 n2 c2) xs) (k2 : Within f2 0 w.heap.size) :
    Calls Tryz.prog f #[.agg #[.slice A0 n0 c0, .slice A1 n1 c1], .int .i64 temp, .slice A2 n2 c2] w fun e w' => ∃ L code fp A' c', e = .returned (.tuple #[.slice A' L.length c', .int .i64 code]) ∧ EvAns d temp xs L code ∧ S_SignalEventS w' fp (.slice A' L.length c') L ∧ Fresh w w' fp ∧ Below w.heap.size w w' := by
  have hs := call_sound mixed (hc ⟨fun _ => none, 0⟩) w.heap.size (fun b => b < w.heap.size) (fun _ => none) w #[.agg #[.slice A0 n0 c0, .slice A1 n1 c1], .int .i64 temp, .slice A2 n2 c2]
    ⟨Nat.le_refl _, fun _ h => h, fun id r h => (by cases h), fun id id' r r' B B' h => (by cases h)⟩ (fun id h => absurd rfl h)
    (repL_three (.imm _ _ (set_imm h0 h1 (fun b hb => (k0 b hb).2) fun b hb => (k1 b hb).2)) (.imm _ _ (.int _ _)) (.imm _ _ (cells_imm h2 fun b hb => (k2 b hb).2)))
  refine hs.mono ?_
  rintro e w' ⟨r, g', n', D', ι', u, rfl, ⟨L, code, x, rfl, hx, hans⟩, hst, hsim, _, _, hrep⟩
  obtain ⟨vs, fv, rfl, hsz, hv, hr⟩ := rep_tup hrep
  have e0 := hv 0 (by simp)
  have e1 := hv 1 (by simp)
  have r0 := hr 0 _ rfl
  have r1 := rep_int (hr 1 _ rfl)
  obtain ⟨l⟩ := vs
  obtain ⟨p, q, rfl⟩ : ∃ p q, l = [p, q] := by
    match l, hsz with
    | [p, q], _ => exact ⟨p, q, rfl⟩
  simp at e0 e1
  rw [← e0] at r0
  rw [← e1] at r1
  subst r1
  rcases hx with ⟨rfl, rfl⟩ | ⟨o, rfl, hg⟩
  · rw [rep_nils r0]
    exact ⟨[], code, [], none, 0, rfl, hans, SlOf.nil _ _ _, Fresh.nil _ _, hst.below⟩
  · obtain ⟨of, cap, B, rfl, hB, hcap, ho, hfit, hmax⟩ := rep_own r0
    obtain ⟨B', hB', R, hlo, _⟩ := hsim.row o _ hg
    rw [hB] at hB'; injection hB' with hB'; subst hB'
    obtain ⟨cs, T, hblk, hcs⟩ := R.blk
    have hlt : B.b < w'.heap.size := (Array.getElem?_eq_some_iff.1 hblk).1
    have hsz4 : B.sz = 4 := R.sz
    have hlo' := hlo rfl
    refine ⟨L, code, [B.b], some ⟨B.b, of, none⟩, cap, rfl, hans, ?_, ⟨Within.one hlo' hlt, by simp, fun b hb => ?_⟩, hst.below⟩
    · refine SlOf.mk_flat (fun _ _ => rfl) ⟨_, cap, rfl, hcap, hmax, ?_⟩
      by_cases hL : L = []
      · subst hL
        exact .inr ⟨B.b, of, rfl, rfl, fun j u hj => by simp at hj⟩
      · have hpos : 0 < L.length := List.length_pos_iff.2 hL
        have ho' : of = 0 := by rcases ho with h | h <;> omega
        subst ho'
        refine .inr ⟨B.b, 0, rfl, rfl, fun j u hj => ?_⟩
        have hjl : j < L.length * 4 := by
          have := (List.getElem?_eq_some_iff.1 hj).1
          rwa [flatMap_len (k := 4) (fun _ => rfl)] at this
        have hi : j / 4 < L.length := by omega
        have hj4 : j = (j / 4) * 4 + j % 4 := by omega
        rw [List.flatMap_def, hj4, flatten_get (sz := 4) (fun cs hcs => by obtain ⟨x, _, rfl⟩ := List.mem_map.1 hcs; rfl) (i := j / 4) (cs := enc_SignalEvent L[j / 4]) (by simp [hi]) (by omega)] at hj
        obtain ⟨v, hv1, hv2⟩ := R.at_ (j / 4) (j % 4) (eEvent L[j / 4]) ((eEvent L[j / 4])[j % 4]'(by simp [eEvent]; omega)) (by simp [hi]) (List.getElem?_eq_getElem _)
        obtain ⟨u', hu', hsc⟩ := flatEvent.get (x := L[j / 4]) (j := j % 4) (List.getElem?_eq_getElem (by simp [eEvent]; omega))
        rw [hu'] at hj
        injection hj with hj
        subst hj
        have hvu : v = u' := scal_of_rep hsc hv2
        subst hvu
        rw [hj4]
        have hv1' : w'.cell? ⟨B.b, (j / 4) * 4 + j % 4, none⟩ = some v := hv1
        rw [Nat.zero_add]; exact hv1'
    · have : b = B.b := by simpa using hb
      subst this
      exact ⟨cs, T, hblk⟩

theorem sEv_any (d : D_SignalSet) (temp : Int) (xs : List D_SignalCell) (hs : SmallSet d) (hn : SmallNames d) : ∀ σ, Call Tryz.prog 8 [.agg (eSet d), .int .i64 temp, .sl (xs.map eCell)] σ (EvK d temp xs) := fun σ =>
  Call_mono _ _ _ _ _ (fun r σ' ⟨L, code, oid, h1, h2, h3⟩ => ⟨L, code, _, h1, .inr ⟨oid, rfl, h2⟩, h3⟩) (sEventsOf_v d temp xs hs hn σ)
theorem iEv_any (d : D_SignalSet) (temp : Int) (xs : List D_SignalCell) (hs : SmallSet d) (hn : SmallNames d) : ∀ σ, Call Tryz.prog 11 [.agg (eSet d), .int .i64 temp, .sl (xs.map eCell)] σ (EvK d temp xs) := fun σ =>
  Call_mono _ _ _ _ _ (fun r σ' ⟨L, code, x, h1, h2, h3⟩ => ⟨L, code, x, h1, by
    rcases h2 with h | ⟨o, _, _, h4, h5⟩
    · exact .inl h
    · exact .inr ⟨o, h4, h5⟩, h3⟩) (iEventsOf_v d temp xs hs hn σ)

end Go.Proofs.YtpbniieiinhliaaGreat.V

namespace Go.Proofs.YtpbniieiinhliaaGreat
open Go.ChangeShapes Go.WideShapes Go.ChangeAt Go.RowKit Go.Deep

section
variable {H : Type} {enc : TypeId × Value → H} {P : Program} {w : World}

theorem SlOf.mk_at {α : Type} {rep : World → List Nat → List Value → α → Prop} {sz : Nat} {w : World} {b o len cap : Nat} (css : Nat → List Value) (fs : Nat → List Nat) (ds : Nat → α) (hc : len ≤ cap) (hm : cap ≤ maxLen)
    (hl : ∀ i, i < len → (css i).length = sz) (hr : ∀ i, i < len → rep w (fs i) (css i) (ds i)) (hat : ∀ i, i < len → ∀ j u, (css i)[j]? = some u → w.cell? ⟨b, o + (i * sz + j), none⟩ = some u) :
    SlOf rep sz w ([b] ++ ((List.range len).map fs).flatten) (.slice (some ⟨b, o, none⟩) len cap) ((List.range len).map ds) := by
  refine ⟨(List.range len).map css, (List.range len).map fs, [b], rfl, ⟨some ⟨b, o, none⟩, cap, by simp, by simpa using hc, hm, .inr ⟨b, o, rfl, rfl, fun j u hj => ?_⟩⟩, by simp, by simp, fun i cs f d h1 h2 h3 => ?_⟩
  · have hlen : ∀ cs ∈ (List.range len).map css, cs.length = sz := fun cs hcs => by
      obtain ⟨i, hi, rfl⟩ := List.mem_map.1 hcs
      exact hl i (List.mem_range.1 hi)
    have hjl := (List.getElem?_eq_some_iff.1 hj).1
    have hfl : ((List.range len).map css).flatten.length = len * sz := by
      rw [List.length_flatten, List.map_map]
      have : ∀ (l : List Nat), (∀ i ∈ l, i < len) → (l.map (List.length ∘ css)).sum = l.length * sz := by
        intro l
        induction l with
        | nil => intro _; simp
        | cons a l ih => intro h; rw [List.map_cons, List.sum_cons, ih fun i hi => h i (List.mem_cons_of_mem _ hi)]; simp only [Function.comp, hl a (h a (by simp)), List.length_cons, Nat.add_mul]; omega
      rw [this _ fun i hi => List.mem_range.1 hi, List.length_range]
    rw [hfl] at hjl
    have hs0 : 0 < sz := by
      rcases Nat.eq_zero_or_pos sz with h | h
      · subst h; simp at hjl
      · exact h
    have hi : j / sz < len := (Nat.div_lt_iff_lt_mul hs0).2 hjl
    have hm2 : j % sz < sz := Nat.mod_lt _ hs0
    have hje : j = (j / sz) * sz + j % sz := by rw [Nat.mul_comm]; exact (Nat.div_add_mod j sz).symm
    rw [hje, flatten_get hlen (i := j / sz) (cs := css (j / sz)) (by simp [hi]) hm2] at hj
    rw [hje]
    have := hat (j / sz) hi (j % sz) u hj
    rw [← hje] at this ⊢
    exact this
  · have hi : i < len := by
      have := (List.getElem?_eq_some_iff.1 h1).1
      simpa using this
    simp [hi] at h1 h2 h3
    subst h1 h2 h3
    exact ⟨hr i hi, hl i hi⟩

theorem add_mk (b o k : Nat) : (⟨b, o, none⟩ : Addr).add k = ⟨b, o + k, none⟩ := by
  unfold Addr.add; split
  · rename_i h; subst h; rfl
  · rfl
theorem trod_slof {α : Type} {rep : World → List Nat → List Value → α → Prop} {Q : α → Prop} {t e : TypeId} {sz fuel : Nat} {cs : List Value} {x : DataW H × List MemPlace} (ht : P.underlying t = some (.slice e)) (hC : P.cellsOf e = sz) (hs0 : 0 < sz)
    (h : DataW.trod enc P w 0 (fun _ => true) true fuel t cs = some x) (hel : ∀ n cs' y, cs'.length = sz → DataW.trod enc P w 0 (fun _ => true) true n e cs' = some y → ∃ f d, Within f 0 w.heap.size ∧ rep w f cs' d ∧ Q d) :
    ∃ A n c f xs, cs = [.slice A n c] ∧ Within f 0 w.heap.size ∧ SlOf rep sz w f (.slice A n c) xs ∧ ∀ d ∈ xs, Q d := by
  rcases open_slice ht h with ⟨rfl, _⟩ | ⟨a, len, cap, m, n, D, Pl, rfl, _, hl, hm, hmm, _, hi⟩
  · exact ⟨none, 0, 0, [], [], rfl, Within.nil _ _, SlOf.nil _ _ _, fun d h => by cases h⟩
  rw [hC] at hi
  simp only [if_true] at hmm
  by_cases h0 : len = 0
  · subst h0
    exact ⟨some a, 0, cap, [], [], rfl, Within.nil _ _, ⟨[], [], [], rfl, ⟨some a, cap, rfl, Nat.zero_le _, hm, .inl ⟨rfl, rfl⟩⟩, rfl, rfl, fun i cs f d hc => by simp at hc⟩, fun d h => by cases h⟩
  obtain ⟨b, o, sp⟩ := a
  have cell0 : ∃ v, w.cell? ⟨b, o, sp⟩ = some v := by
    obtain ⟨cs', hc, _⟩ := hi 0 (by omega)
    obtain ⟨_, hcl, hat⟩ := World.cells?_some hc
    refine ⟨cs'[0]'(by omega), ?_⟩
    have := hat 0 hs0
    rw [List.getElem?_eq_getElem (by omega)] at this
    simpa [Addr.add] using this
  obtain ⟨v0, hv0⟩ := cell0
  have hb : b < w.heap.size := World.block_lt_of_cell? w _ hv0
  have hsp : sp = none := by
    unfold World.cell? at hv0
    split at hv0
    · split at hv0
      · cases hv0
      · rename_i h; simpa using h
    · cases hv0
  subst hsp
  have key : ∀ i, i < len → ∃ cs' f d, cs'.length = sz ∧ Within f 0 w.heap.size ∧ rep w f cs' d ∧ Q d ∧ ∀ j u, cs'[j]? = some u → w.cell? ⟨b, o + (i * sz + j), none⟩ = some u := fun i hil => by
    obtain ⟨cs', hc, htr⟩ := hi i (by omega)
    obtain ⟨_, hcl, hat⟩ := World.cells?_some hc
    obtain ⟨f, d, h1, h2, h3⟩ := hel n cs' _ hcl htr
    refine ⟨cs', f, d, hcl, h1, h2, h3, fun j u hj => ?_⟩
    have hjl := (List.getElem?_eq_some_iff.1 hj).1
    have := hat j (by omega)
    rw [hj] at this
    rw [← this, Go.Deep.add_add, add_mk]
  have : Nonempty α := by
    obtain ⟨_, _, d, _⟩ := key 0 (by omega)
    exact ⟨d⟩
  let cf : Nat → List Value := fun i => if hi : i < len then (key i hi).choose else []
  let ff : Nat → List Nat := fun i => if hi : i < len then (key i hi).choose_spec.choose else []
  let df : Nat → α := fun i => if hi : i < len then (key i hi).choose_spec.choose_spec.choose else Classical.choice this
  have hall : ∀ i, i < len → (cf i).length = sz ∧ Within (ff i) 0 w.heap.size ∧ rep w (ff i) (cf i) (df i) ∧ Q (df i) ∧ ∀ j u, (cf i)[j]? = some u → w.cell? ⟨b, o + (i * sz + j), none⟩ = some u := fun i hi => by
    have := (key i hi).choose_spec.choose_spec.choose_spec
    simp only [cf, ff, df, dif_pos hi]
    exact this
  refine ⟨some ⟨b, o, none⟩, len, cap, _, (List.range len).map df, rfl, ?_, SlOf.mk_at cf ff df hl hm (fun i hi => (hall i hi).1) (fun i hi => (hall i hi).2.2.1) (fun i hi => (hall i hi).2.2.2.2), fun d hd => ?_⟩
  · intro x hx
    rcases List.mem_append.1 hx with hx | hx
    · simp at hx; subst hx; exact ⟨Nat.zero_le _, hb⟩
    · obtain ⟨l, hlm, hxl⟩ := List.mem_flatten.1 hx
      obtain ⟨i, hi, rfl⟩ := List.mem_map.1 hlm
      exact (hall i (List.mem_range.1 hi)).2.1 x hxl
  · obtain ⟨i, hi, rfl⟩ := List.mem_map.1 hd
    exact (hall i (List.mem_range.1 hi)).2.2.2.1
end

section
variable {H : Type} {enc : TypeId × Value → H} {w : World} {fuel : Nat} {cs : List Value} {x : DataW H × List MemPlace}
abbrev TT (enc : TypeId × Value → H) (w : World) (fuel t : Nat) (cs : List Value) (x : DataW H × List MemPlace) : Prop := DataW.trod enc Tryz.prog w 0 (fun _ => true) true fuel t cs = some x

theorem o_bools (h : TT enc w fuel 67 cs x) : ∃ A n c f xs, cs = [.slice A n c] ∧ Within f 0 w.heap.size ∧ S_BoolS w f (.slice A n c) xs := by
  obtain ⟨A, n, c, f, xs, h1, h2, h3, _⟩ := trod_slof (rep := R_Bool) (Q := fun _ => True) Tryz.underlying67 (sz := 1) (by kernel_rfl) (by omega) h fun n cs' y hl hy => by
    obtain ⟨b, rfl, _⟩ := DataW.trod_bool Tryz.underlying4 hy
    exact ⟨[], b, Within.nil _ _, ⟨rfl, rfl⟩, trivial⟩
  exact ⟨A, n, c, f, xs, h1, h2, h3⟩
theorem o_ints (h : TT enc w fuel 57 cs x) : ∃ A n c f xs, cs = [.slice A n c] ∧ Within f 0 w.heap.size ∧ S_Int64S w f (.slice A n c) xs := by
  obtain ⟨A, n, c, f, xs, h1, h2, h3, _⟩ := trod_slof (rep := R_Int64) (Q := fun _ => True) Tryz.underlying57 (sz := 1) (by kernel_rfl) (by omega) h fun n cs' y hl hy => by
    obtain ⟨b, rfl, _⟩ := DataW.trod_int Tryz.underlying2 hy
    exact ⟨[], b, Within.nil _ _, ⟨rfl, rfl⟩, trivial⟩
  exact ⟨A, n, c, f, xs, h1, h2, h3⟩

/-- A struct's field. -/
theorem o_field {t : TypeId} {fs : Array Field} (ht : Tryz.prog.underlying t = some (.struct fs)) (h : TT enc w fuel t cs x) : cs.length = Tryz.prog.cellsOf t ∧ ∃ n, ∀ (i : Nat) (f : Field), fs[i]? = some f → ∃ y, TT enc w n f.type ((cs.drop f.offset).take (Tryz.prog.cellsOf f.type)) y := by
  obtain ⟨xs, n, _, _, hl, hxl, hf⟩ := DataW.trod_struct ht h
  refine ⟨hl, n, fun i f hi => ?_⟩
  have hil : i < xs.length := by rw [hxl]; exact (Array.getElem?_eq_some_iff.1 hi).1
  exact ⟨xs[i], (hf i f hi).trans (List.getElem?_eq_getElem hil)⟩

theorem len2 {l : List Value} (h : l.length = 2) : ∃ a b, l = [a, b] := by
  match l, h with
  | [a, b], _ => exact ⟨a, b, rfl⟩
theorem len4 {l : List Value} (h : l.length = 4) : ∃ a b c d, l = [a, b, c, d] := by
  match l, h with
  | [a, b, c, d], _ => exact ⟨a, b, c, d, rfl⟩
theorem len6 {l : List Value} (h : l.length = 6) : ∃ a b c d e g, l = [a, b, c, d, e, g] := by
  match l, h with
  | [a, b, c, d, e, g], _ => exact ⟨a, b, c, d, e, g, rfl⟩
set_option maxRecDepth 100000 in
theorem o_fires (h : TT enc w fuel 106 cs x) : ∃ A n c f xs, cs = [.slice A n c] ∧ Within f 0 w.heap.size ∧ S_FireS w f (.slice A n c) xs := by
  obtain ⟨A, n, c, f, xs, h1, h2, h3, _⟩ := trod_slof (rep := R_Fire) (Q := fun _ => True) Tryz.underlying106 (sz := 2) (by kernel_rfl) (by omega) h fun n cs' y hl hy => by
    obtain ⟨_, m, hf⟩ := o_field Tryz.underlying178 hy
    obtain ⟨a, b, rfl⟩ := len2 hl
    · skip
      obtain ⟨y0, h0⟩ := hf 0 _ rfl
      obtain ⟨y1, h1⟩ := hf 1 _ rfl
      rw [show Tryz.prog.cellsOf _ = 1 from by kernel_rfl] at h0 h1
      obtain ⟨p, e0, _⟩ := DataW.trod_int Tryz.underlying2 h0
      obtain ⟨q, e1, _⟩ := DataW.trod_int Tryz.underlying2 h1
      simp at e0 e1
      subst e0 e1
      exact ⟨[], ⟨p, q⟩, Within.nil _ _, ⟨rfl, rfl⟩, trivial⟩
  exact ⟨A, n, c, f, xs, h1, h2, h3⟩
set_option maxRecDepth 100000 in
theorem o_glues (h : TT enc w fuel 22 cs x) : ∃ A n c f xs, cs = [.slice A n c] ∧ Within f 0 w.heap.size ∧ S_GlueS w f (.slice A n c) xs ∧ Ok_GlueS xs := by
  exact trod_slof (rep := R_Glue) (Q := Ok_Glue) Tryz.underlying22 (sz := 2) (by kernel_rfl) (by omega) h fun n cs' y hl hy => by
    obtain ⟨_, m, hf⟩ := o_field Tryz.underlying104 hy
    obtain ⟨a, b, rfl⟩ := len2 hl
    · skip
      obtain ⟨y0, h0⟩ := hf 0 _ rfl
      obtain ⟨y1, h1⟩ := hf 1 _ rfl
      rw [show Tryz.prog.cellsOf _ = 1 from by kernel_rfl] at h0 h1
      obtain ⟨p, e0, _, ws⟩ := DataW.trod_string Tryz.underlying9 h0
      obtain ⟨q, e1, _⟩ := DataW.trod_int Tryz.underlying2 h1
      simp at e0 e1
      subst e0 e1
      exact ⟨[], ⟨p, q⟩, Within.nil _ _, ⟨rfl, rfl⟩, by simpa [Ok_Glue, maxLen] using ws⟩
set_option maxRecDepth 100000 in
theorem o_tiles (h : TT enc w fuel 23 cs x) : ∃ A n c f xs, cs = [.slice A n c] ∧ Within f 0 w.heap.size ∧ S_SignalTileS w f (.slice A n c) xs ∧ Ok_SignalTileS xs := by
  exact trod_slof (rep := R_SignalTile) (Q := Ok_SignalTile) Tryz.underlying23 (sz := 4) (by kernel_rfl) (by omega) h fun n cs' y hl hy => by
    obtain ⟨_, m, hf⟩ := o_field Tryz.underlying108 hy
    obtain ⟨a, b, c, d, rfl⟩ := len4 hl
    · skip
      obtain ⟨y0, h0⟩ := hf 0 _ rfl
      obtain ⟨y1, h1⟩ := hf 1 _ rfl
      obtain ⟨y2, h2⟩ := hf 2 _ rfl
      obtain ⟨y3, h3⟩ := hf 3 _ rfl
      rw [show Tryz.prog.cellsOf _ = 1 from by kernel_rfl] at h0 h1 h2 h3
      obtain ⟨p, e0, _, ws⟩ := DataW.trod_string Tryz.underlying9 h0
      obtain ⟨A1, n1, c1, f1, xs1, e1, k1, s1⟩ := o_ints h1
      obtain ⟨A2, n2, c2, f2, xs2, e2, k2, s2⟩ := o_bools h2
      obtain ⟨A3, n3, c3, f3, xs3, e3, k3, s3⟩ := o_fires h3
      simp at e0 e1 e2 e3
      subst e0 e1 e2 e3
      exact ⟨_, ⟨p, xs1, xs2, xs3⟩, k1.app (k2.app k3), ⟨_, _, _, f1, f2, f3, rfl, rfl, s1, s2, s3⟩, by simpa [Ok_SignalTile, maxLen] using ws⟩
set_option maxRecDepth 100000 in
theorem o_cells (h : TT enc w fuel 26 cs x) : ∃ A n c f xs, cs = [.slice A n c] ∧ Within f 0 w.heap.size ∧ S_SignalCellS w f (.slice A n c) xs := by
  obtain ⟨A, n, c, f, xs, h1, h2, h3, _⟩ := trod_slof (rep := R_SignalCell) (Q := fun _ => True) Tryz.underlying26 (sz := 6) (by kernel_rfl) (by omega) h fun n cs' y hl hy => by
    obtain ⟨_, m, hf⟩ := o_field Tryz.underlying69 hy
    obtain ⟨a, b, c, d, e, g, rfl⟩ := len6 hl
    · skip
      obtain ⟨y0, h0⟩ := hf 0 _ rfl
      obtain ⟨y1, h1⟩ := hf 1 _ rfl
      obtain ⟨y2, h2⟩ := hf 2 _ rfl
      obtain ⟨y3, h3⟩ := hf 3 _ rfl
      obtain ⟨y4, h4⟩ := hf 4 _ rfl
      rw [show Tryz.prog.cellsOf _ = 2 from by kernel_rfl] at h0
      rw [show Tryz.prog.cellsOf _ = 1 from by kernel_rfl] at h1 h2 h3 h4
      obtain ⟨_, m2, hf2⟩ := o_field Tryz.underlying47 h0
      obtain ⟨z0, g0⟩ := hf2 0 _ rfl
      obtain ⟨z1, g1⟩ := hf2 1 _ rfl
      rw [show Tryz.prog.cellsOf _ = 1 from by kernel_rfl] at g0 g1
      obtain ⟨px, e0, _⟩ := DataW.trod_int Tryz.underlying2 g0
      obtain ⟨py, e1, _⟩ := DataW.trod_int Tryz.underlying2 g1
      obtain ⟨ti, e2, _⟩ := DataW.trod_int Tryz.underlying2 h1
      obtain ⟨A1, n1, c1, f1, xs1, e3, k1, s1⟩ := o_bools h2
      obtain ⟨A2, n2, c2, f2, xs2, e4, k2, s2⟩ := o_bools h3
      obtain ⟨A3, n3, c3, f3, xs3, e5, k3, s3⟩ := o_bools h4
      simp at e0 e1 e2 e3 e4 e5
      subst e0 e1 e2 e3 e4 e5
      exact ⟨_, ⟨⟨px, py⟩, ti, xs1, xs2, xs3⟩, k1.app (k2.app k3), ⟨_, _, _, f1, f2, f3, rfl, rfl, s1, s2, s3⟩, trivial⟩
  exact ⟨A, n, c, f, xs, h1, h2, h3⟩
set_option maxRecDepth 100000 in
theorem o_set (h : TT enc w fuel 25 cs x) : ∃ A0 n0 c0 f0 A1 n1 c1 f1, ∃ d : D_SignalSet, cs = [.slice A0 n0 c0, .slice A1 n1 c1] ∧ Within f0 0 w.heap.size ∧ S_GlueS w f0 (.slice A0 n0 c0) d.g_Glues ∧ Within f1 0 w.heap.size ∧ S_SignalTileS w f1 (.slice A1 n1 c1) d.g_Tiles ∧ Ok_SignalSet d := by
  obtain ⟨hl, m, hf⟩ := o_field Tryz.underlying25 h
  rw [show Tryz.prog.cellsOf _ = 2 from by kernel_rfl] at hl
  obtain ⟨a, b, rfl⟩ := len2 hl
  · skip
    obtain ⟨y0, h0⟩ := hf 0 _ rfl
    obtain ⟨y1, h1⟩ := hf 1 _ rfl
    rw [show Tryz.prog.cellsOf _ = 1 from by kernel_rfl] at h0 h1
    obtain ⟨A1, n1, c1, f1, xs1, e1, k1, s1, o1⟩ := o_glues h0
    obtain ⟨A2, n2, c2, f2, xs2, e2, k2, s2, o2⟩ := o_tiles h1
    simp at e1 e2
    subst e1 e2
    exact ⟨A1, n1, c1, f1, A2, n2, c2, f2, ⟨xs1, xs2⟩, rfl, k1, s1, k2, s2, o1, o2⟩
end
end Go.Proofs.YtpbniieiinhliaaGreat

namespace Go.Proofs.YtpbniieiinhliaaGreat
open Go.RowKit

theorem wt_all {α : Type} (f : α → Nat) : ∀ (l : List α) (x : α), x ∈ l → f x ≤ (l.map f).sum
  | [], _, h => by cases h
  | a :: l, x, h => by
    rw [List.map_cons, List.sum_cons]
    rcases List.mem_cons.1 h with rfl | h
    · omega
    · have := wt_all f l x h; omega
theorem small_set {d : D_SignalSet} (h : wt_SignalSet d ≤ 1048576) : V.SmallSet d ∧ V.SmallNames d ∧ Len_SignalSet d := by
  unfold wt_SignalSet wt_GlueS wt_SignalTileS at h
  have ht : ∀ t ∈ d.g_Tiles, wt_SignalTile t ≤ 1048576 := fun t ht => by
    have : wt_SignalTile t ≤ (d.g_Tiles.map fun d => wt_SignalTile d).sum := wt_all _ _ _ ht
    omega
  have ht' : ∀ t ∈ d.g_Tiles, t.g_Name.size ≤ 1048576 ∧ t.g_Sides.length ≤ 1048576 ∧ t.g_On.length ≤ 1048576 ∧ t.g_Fires.length ≤ 1048576 := fun t htm => by
    have := ht t htm
    unfold wt_SignalTile wt_Int64S wt_BoolS wt_FireS at this
    omega
  refine ⟨⟨by omega, by omega, fun t htm => (ht' t htm).2.1⟩, ⟨fun g hg => ?_, fun t htm => (ht' t htm).1⟩, ⟨by unfold Len_GlueS; omega, by omega, fun k hk => ?_⟩⟩
  · have h1 : wt_Glue g ≤ (d.g_Glues.map fun d => wt_Glue d).sum := wt_all _ _ _ hg
    have h2 : wt_Glue g = g.g_Name.size := rfl
    omega
  · have := ht' _ (List.getElem_mem hk)
    exact ⟨this.2.1, this.2.2.1, this.2.2.2⟩
theorem small_cells {xs : List D_SignalCell} (h : wt_SignalCellS xs ≤ 1048576) : Len_SignalCellS xs := by
  unfold wt_SignalCellS at h
  refine ⟨by omega, fun k hk => ?_⟩
  have h1 : wt_SignalCell xs[k] ≤ (xs.map fun d => wt_SignalCell d).sum := wt_all _ _ _ (List.getElem_mem hk)
  have h2 : wt_SignalCell xs[k] = xs[k].g_On.length + (xs[k].g_Bound.length + xs[k].g_Fired.length) := rfl
  exact ⟨by unfold Len_BoolS; omega, by unfold Len_BoolS; omega, by unfold Len_BoolS; omega⟩

theorem sum_le {α : Type} (f g : α → Nat) (a b : Nat) (h : ∀ x, f x ≤ a + b * g x) : ∀ l : List α, (l.map f).sum ≤ a * l.length + b * (l.map g).sum
  | [] => by simp
  | x :: l => by
    have h1 := h x
    have h2 := sum_le f g a b h l
    simp only [List.map_cons, List.sum_cons, List.length_cons, Nat.mul_add, Nat.mul_one]
    omega
theorem one_sum {α : Type} (f : α → Nat) (a : Nat) (h : ∀ x, f x = a) : ∀ l : List α, (l.map f).sum = a * l.length
  | [] => by simp
  | x :: l => by rw [List.map_cons, List.sum_cons, one_sum f a h l, h x, List.length_cons, Nat.mul_add]; omega
theorem cnt_set {d : D_SignalSet} (h : wt_SignalSet d ≤ 1048576) : cnt_SignalSet d ≤ 4194304 := by
  have h1 : cnt_GlueS d.g_Glues = 2 * d.g_Glues.length := one_sum _ 2 (fun _ => rfl) _
  have h2 : cnt_SignalTileS d.g_Tiles ≤ 1 * d.g_Tiles.length + 2 * (d.g_Tiles.map fun d => wt_SignalTile d).sum := sum_le _ _ 1 2 (fun t => by
    have e1 : cnt_Int64S t.g_Sides = 1 * t.g_Sides.length := one_sum _ 1 (fun _ => rfl) _
    have e2 : cnt_BoolS t.g_On = 1 * t.g_On.length := one_sum _ 1 (fun _ => rfl) _
    have e3 : cnt_FireS t.g_Fires = 2 * t.g_Fires.length := one_sum _ 2 (fun _ => rfl) _
    show 1 + cnt_Int64S t.g_Sides + cnt_BoolS t.g_On + cnt_FireS t.g_Fires ≤ 1 + 2 * (t.g_Name.size + (t.g_Sides.length + (t.g_On.length + t.g_Fires.length)))
    omega) _
  unfold wt_SignalSet wt_GlueS wt_SignalTileS at h
  unfold cnt_SignalSet
  omega
theorem cnt_cells {xs : List D_SignalCell} (h : wt_SignalCellS xs ≤ 1048576) : cnt_SignalCellS xs ≤ 4194304 := by
  have h2 : cnt_SignalCellS xs ≤ 3 * xs.length + 1 * (xs.map fun d => wt_SignalCell d).sum := sum_le _ _ 3 1 (fun t => by
    have e1 : cnt_BoolS t.g_On = 1 * t.g_On.length := one_sum _ 1 (fun _ => rfl) _
    have e2 : cnt_BoolS t.g_Bound = 1 * t.g_Bound.length := one_sum _ 1 (fun _ => rfl) _
    have e3 : cnt_BoolS t.g_Fired = 1 * t.g_Fired.length := one_sum _ 1 (fun _ => rfl) _
    show 1 + 1 + 1 + cnt_BoolS t.g_On + cnt_BoolS t.g_Bound + cnt_BoolS t.g_Fired ≤ 3 + 1 * (t.g_On.length + (t.g_Bound.length + t.g_Fired.length))
    omega) _
  unfold wt_SignalCellS at h
  omega
theorem cnt_evs (L : List D_SignalEvent) : cnt_SignalEventS L = 4 * L.length := one_sum _ 4 (fun _ => rfl) _
theorem unf_b {w w' : World} {f : List Nat} (h : ∀ b ∈ f, Unf w b) (hb : Below w.heap.size w w') : ∀ b ∈ f, Unf w' b := fun b hm => (h b hm).same (hb.block b (h b hm).lt)

/-! ### What lies in a world -/
structure SetIn (w : World) (A0 : Option Addr) (n0 c0 : Nat) (f0 : List Nat) (A1 : Option Addr) (n1 c1 : Nat) (f1 : List Nat) (d : D_SignalSet) : Prop where
  g : S_GlueS w f0 (.slice A0 n0 c0) d.g_Glues
  gw : Within f0 0 w.heap.size
  t : S_SignalTileS w f1 (.slice A1 n1 c1) d.g_Tiles
  tw : Within f1 0 w.heap.size
structure CellsIn (w : World) (A : Option Addr) (n c : Nat) (f : List Nat) (xs : List D_SignalCell) : Prop where
  c : S_SignalCellS w f (.slice A n c) xs
  w : Within f 0 w.heap.size
structure EvIn (w : World) (A : Option Addr) (n c : Nat) (f : List Nat) (L : List D_SignalEvent) : Prop where
  e : S_SignalEventS w f (.slice A n c) L
  w : Within f 0 w.heap.size
structure Box2 (w : World) (b : Nat) (x y : Value) : Prop where
  c0 : w.cell? ⟨b, 0, none⟩ = some x
  c1 : w.cell? ⟨b, 1, none⟩ = some y
variable {w w' : World}
theorem SetIn.b {A0 n0 c0 f0 A1 n1 c1 f1 d} (h : SetIn w A0 n0 c0 f0 A1 n1 c1 f1 d) (hb : Below w.heap.size w w') : SetIn w' A0 n0 c0 f0 A1 n1 c1 f1 d :=
  ⟨h.g.kb h.gw hb, h.gw.wide (Nat.le_refl _) hb.size, h.t.kb h.tw hb, h.tw.wide (Nat.le_refl _) hb.size⟩
theorem CellsIn.b {A n c f xs} (h : CellsIn w A n c f xs) (hb : Below w.heap.size w w') : CellsIn w' A n c f xs := ⟨h.c.kb h.w hb, h.w.wide (Nat.le_refl _) hb.size⟩
theorem EvIn.b {A n c f L} (h : EvIn w A n c f L) (hb : Below w.heap.size w w') : EvIn w' A n c f L := ⟨h.e.kb h.w hb, h.w.wide (Nat.le_refl _) hb.size⟩
theorem Box2.b {b x y} (h : Box2 w b x y) (hb : Below w.heap.size w w') : Box2 w' b x y :=
  ⟨(hb.cell (p := ⟨b, 0, none⟩) (World.block_lt_of_cell? w _ h.c0)).trans h.c0, (hb.cell (p := ⟨b, 1, none⟩) (World.block_lt_of_cell? w _ h.c1)).trans h.c1⟩

theorem apart {a b : List Nat} {lo hi lo' hi' : Nat} (ha : Within a lo hi) (hb : Within b lo' hi') (h : hi ≤ lo') : ∀ x ∈ a, x ∉ b := fun x hx hy => by
  have := ha x hx
  have := hb x hy
  omega
theorem apart' {a b : List Nat} {lo hi lo' hi' : Nat} (ha : Within a lo hi) (hb : Within b lo' hi') (h : hi' ≤ lo) : ∀ x ∈ a, x ∉ b := fun x hx hy => by
  have := ha x hx
  have := hb x hy
  omega
theorem SetIn.o {f : List Nat} {A0 n0 c0 f0 A1 n1 c1 f1 d} (h : SetIn w A0 n0 c0 f0 A1 n1 c1 f1 d) (ho : Only f w w') (h0 : ∀ x ∈ f0, x ∉ f) (h1 : ∀ x ∈ f1, x ∉ f) : SetIn w' A0 n0 c0 f0 A1 n1 c1 f1 d :=
  ⟨h.g.same (ho.same h0 fun x hx => (h.gw x hx).2), h.gw.wide (Nat.le_refl _) ho.size, h.t.same (ho.same h1 fun x hx => (h.tw x hx).2), h.tw.wide (Nat.le_refl _) ho.size⟩
theorem CellsIn.o {f : List Nat} {A n c fp xs} (h : CellsIn w A n c fp xs) (ho : Only f w w') (h0 : ∀ x ∈ fp, x ∉ f) : CellsIn w' A n c fp xs := ⟨h.c.same (ho.same h0 fun x hx => (h.w x hx).2), h.w.wide (Nat.le_refl _) ho.size⟩
theorem EvIn.o {f : List Nat} {A n c fp L} (h : EvIn w A n c fp L) (ho : Only f w w') (h0 : ∀ x ∈ fp, x ∉ f) : EvIn w' A n c fp L := ⟨h.e.same (ho.same h0 fun x hx => (h.w x hx).2), h.w.wide (Nat.le_refl _) ho.size⟩
theorem Box2.o {f : List Nat} {b x y} (h : Box2 w b x y) (ho : Only f w w') (h0 : b ∉ f) : Box2 w' b x y := by
  have hb := ho.block b (World.block_lt_of_cell? w _ h.c0) h0
  exact ⟨(cell_same hb).trans h.c0, (cell_same hb).trans h.c1⟩
theorem SetIn.of_R {fp : List Nat} {A0 n0 c0 A1 n1 c1} {d : D_SignalSet} (h : R_SignalSet w' fp [.slice A0 n0 c0, .slice A1 n1 c1] d) (hF : Fresh w w' fp) : ∃ f0 f1, fp = f0 ++ f1 ∧ SetIn w' A0 n0 c0 f0 A1 n1 c1 f1 d := by
  obtain ⟨v0, v1, f0, f1, rfl, hv, s0, s1⟩ := h
  simp at hv
  obtain ⟨rfl, rfl⟩ := hv
  exact ⟨f0, f1, rfl, s0, hF.within.left.wide (Nat.zero_le _) (Nat.le_refl _), s1, hF.within.right.wide (Nat.zero_le _) (Nat.le_refl _)⟩
theorem EvLen {d : D_SignalSet} {temp : Int} {xs : List D_SignalCell} {L : List D_SignalEvent} {code : Int} (h : V.EvAns d temp xs L code) : L.length ≤ 1000000 := by
  obtain ⟨h1, h2, h3⟩ := h
  by_cases h0 : code = 0
  · obtain ⟨ps, hR, hm, rfl⟩ := h3 h0
    have hok : V.CellsOk d xs := V.cellsB_ok (by
      rw [h0] at h1
      unfold V.askN at h1
      split at h1
      · assumption
      · cases h1)
    have e1 := V.evsN_len (s := d) hok.six xs.length (Nat.le_refl _)
    have e2 := V.attsN_len (s := d) (temp := temp) (cells := xs) (ps := ps) ps.length (Nat.le_refl _)
    have e3 : ps.length ≤ (V.arL xs xs.length).length := V.nodup_len hR.nodup fun x hx => by
      obtain ⟨_, h | ⟨d, hd, _⟩⟩ := (hm x).1 hx
      · exact (V.arL_mem _ (Nat.le_refl _)).2 h
      · omega
    rw [V.arL_len _ (Nat.le_refl _)] at e3
    have e4 := hok.few
    have e5 : ps.length * d.g_Tiles.length ≤ 320 * 160 := Nat.mul_le_mul (by omega) hok.tiles
    rw [V.eventsL, List.length_append]; omega
  · rw [h2 h0]; simp

set_option maxRecDepth 100000 in
set_option maxHeartbeats 4000000 in
theorem law_any (w : World) (A0 : Option Addr) (n0 c0 : Nat) (f0 : List Nat) (A1 : Option Addr) (n1 c1 : Nat) (f1 : List Nat) (d : D_SignalSet) (hs : SetIn w A0 n0 c0 f0 A1 n1 c1 f1 d) (ok : Ok_SignalSet d) (temp : Int)
    (A2 : Option Addr) (n2 c2 : Nat) (f2 : List Nat) (xs : List D_SignalCell) (hc : CellsIn w A2 n2 c2 f2 xs) :
    Calls Tryz.prog 3 #[.agg #[.slice A0 n0 c0, .slice A1 n1 c1], .int .i64 temp, .slice A2 n2 c2] w fun e w' => e = .returned (.bool true) ∧ Below w.heap.size w w' := by
  have b0 : Below w.heap.size w (w.alloc (.cells #[.slice A0 n0 c0, .slice A1 n1 c1] 25)) := (Below.refl _ _).alloc (Nat.le_refl _) _
  have x0 : Box2 (w.alloc (.cells #[.slice A0 n0 c0, .slice A1 n1 c1] 25)) w.heap.size (.slice A0 n0 c0) (.slice A1 n1 c1) := ⟨by simp [go_sem], by simp [go_sem]⟩
  have hs0 := hs
  have hc0 := hc
  replace hs := hs.b b0
  replace hc := hc.b b0
  have w0 : Within f0 0 w.heap.size := hs0.gw
  have w1' : Within f1 0 w.heap.size := hs0.tw
  have w2' : Within f2 0 w.heap.size := hc0.w
  clear hs0 hc0
  go_enter Tryz.func3, Tryz.ntmps3
  go_wp2_with fail
  refine (szSignalSet_any _ d 1048576 A0 n0 c0 f0 hs.g hs.gw A1 n1 c1 f1 hs.t hs.tw (by omega) (by omega) ok).mono ?_
  rintro e w1 ⟨rfl, z1⟩
  replace hs := hs.b z1
  replace hc := hc.b z1
  replace x0 := x0.b z1
  replace b0 := b0.trans (z1.mono b0.size)
  clear z1
  rcases szR_cases (wt_SignalSet d) 1048576 with ⟨e1, l1⟩ | ⟨e1, l1⟩
  case inr =>
    rw [e1]
    go_wp2_with fail
    go_ret
    exact ⟨rfl, b0⟩
  obtain ⟨ss, sn, ls⟩ := small_set (d := d) (by omega)
  have m1 : ¬ ((1048576 : Int) - (wt_SignalSet d : Int) < 0) := by omega
  rw [e1]
  go_wp2_with fail
  refine (szSignalCellS_any _ A2 n2 c2 f2 xs (1048576 - (wt_SignalSet d : Int)) hc.c hc.w (by omega) (by omega)).mono ?_
  rintro e w2 ⟨rfl, z1⟩
  replace hs := hs.b z1
  replace hc := hc.b z1
  replace x0 := x0.b z1
  replace b0 := b0.trans (z1.mono b0.size)
  clear z1
  rcases szR_cases (wt_SignalCellS xs) (1048576 - (wt_SignalSet d : Int)) with ⟨e2, l2⟩ | ⟨e2, l2⟩
  case inr =>
    rw [e2]
    go_wp2_with fail
    go_ret
    exact ⟨rfl, b0⟩
  have lc := small_cells (xs := xs) (by omega)
  have m2 : ¬ ((1048576 : Int) - (wt_SignalSet d : Int) - (wt_SignalCellS xs : Int) < 0) := by omega
  rw [e2]
  have p0 := x0.c0
  have p1 := x0.c1
  go_wp2_with fail
  have cs1 := cnt_set (d := d) (by omega)
  have cs2 := cnt_cells (xs := xs) (by omega)
  clear e1 e2 m1 m2 l1 l2 p0 p1
  -- the reference's call
  refine (toSignalSet_any _ d A0 n0 c0 f0 hs.g hs.gw A1 n1 c1 f1 hs.t hs.tw ls).mono ?_
  rintro e w3 ⟨fp, a0, k0, a1, k1, rfl, hR, hF, z1⟩
  obtain ⟨g0, g1, rfl, hu⟩ := SetIn.of_R hR hF
  replace hs := hs.b z1
  replace hc := hc.b z1
  replace x0 := x0.b z1
  replace b0 := b0.trans (z1.mono b0.size)
  clear z1 hR hF
  go_wp2_with fail
  refine (toSignalCellS_any _ A2 n2 c2 f2 xs hc.c hc.w lc).mono ?_
  rintro e w4 ⟨fq, a2, k2, rfl, hR, hF, z1⟩
  have hv : CellsIn w4 a2 xs.length k2 fq xs := ⟨hR, hF.within.wide (Nat.zero_le _) (Nat.le_refl _)⟩
  replace hs := hs.b z1
  replace hc := hc.b z1
  replace x0 := x0.b z1
  replace hu := hu.b z1
  replace b0 := b0.trans (z1.mono b0.size)
  clear z1 hR hF
  go_wp2_with fail
  refine (V.ev_any d temp xs (V.sEv_any d temp xs ss sn) _ a0 _ k0 g0 hu.g hu.gw a1 _ k1 g1 hu.t hu.tw a2 _ k2 fq hv.c hv.w).mono ?_
  rintro e w5 ⟨L, code, fl, aL, kL, rfl, hans, hL0, hF, z1⟩
  have hL : EvIn w5 aL L.length kL fl L := ⟨hL0, hF.within.wide (Nat.zero_le _) (Nat.le_refl _)⟩
  have hLw : Within fl 0 w5.heap.size := hL.w
  have q5' := z1.size
  replace hs := hs.b z1
  replace hc := hc.b z1
  replace x0 := x0.b z1
  replace b0 := b0.trans (z1.mono b0.size)
  clear z1 hL0 hF hu hv
  have q5 : w.heap.size < w5.heap.size := World.block_lt_of_cell? _ _ x0.c0
  clear q5'
  -- the program's arguments
  have p0 := x0.c0
  have p1 := x0.c1
  go_wp2_with fail
  clear p0 p1
  refine (toSignalSet_any _ d A0 n0 c0 f0 hs.g hs.gw A1 n1 c1 f1 hs.t hs.tw ls).mono ?_
  rintro e w6 ⟨fp, a0, k0, a1, k1, rfl, hR, hFx, z1⟩
  obtain ⟨g0, g1, rfl, hx⟩ := SetIn.of_R hR hFx
  replace hs := hs.b z1
  replace hc := hc.b z1
  replace x0 := x0.b z1
  replace hL := hL.b z1
  replace b0 := b0.trans (z1.mono b0.size)
  have q6 := z1.size
  have k6 : Below w6.heap.size w6 w6 := Below.refl _ _
  clear z1 hR
  go_wp2_with fail
  obtain ⟨w7, hw7⟩ : ∃ w7, w7 = w6.alloc (.cells #[.slice a0 d.g_Glues.length k0, .slice a1 d.g_Tiles.length k1] 35) := ⟨_, rfl⟩
  rw [← hw7]
  have z1 : Below w6.heap.size w6 w7 := by rw [hw7]; exact (Below.refl _ _).alloc (Nat.le_refl _) _
  have y0 : Box2 w7 w6.heap.size (.slice a0 d.g_Glues.length k0) (.slice a1 d.g_Tiles.length k1) := by rw [hw7]; exact ⟨by simp [go_sem], by simp [go_sem]⟩
  have q7 : w7.heap.size = w6.heap.size + 1 := by rw [hw7]; simp [go_sem]
  replace hs := hs.b z1
  replace hc := hc.b z1
  replace x0 := x0.b z1
  replace hL := hL.b z1
  replace hx := hx.b z1
  replace b0 := b0.trans (z1.mono b0.size)
  replace k6 := k6.trans (z1.mono k6.size)
  clear z1 hw7
  refine (toSignalCellS_any _ A2 n2 c2 f2 xs hc.c hc.w lc).mono ?_
  rintro e w8 ⟨fq, a2, k2, rfl, hR, hFy, z1⟩
  have hy : CellsIn w8 a2 xs.length k2 fq xs := ⟨hR, hFy.within.wide (Nat.zero_le _) (Nat.le_refl _)⟩
  replace hs := hs.b z1
  replace hc := hc.b z1
  replace x0 := x0.b z1
  replace y0 := y0.b z1
  replace hL := hL.b z1
  replace hx := hx.b z1
  replace b0 := b0.trans (z1.mono b0.size)
  replace k6 := k6.trans (z1.mono k6.size)
  have q8 := z1.size
  have k8 : Below w8.heap.size w8 w8 := Below.refl _ _
  clear z1 hR
  -- the program's call
  have p0 := y0.c0
  have p1 := y0.c1
  go_wp2_with fail
  clear p0 p1
  refine (V.ev_any d temp xs (V.iEv_any d temp xs ss sn) _ a0 _ k0 g0 hx.g hx.gw a1 _ k1 g1 hx.t hx.tw a2 _ k2 fq hy.c hy.w).mono ?_
  rintro e w9 ⟨L', code', fg, aG, kG, rfl, hans', hG0, hFg, z1⟩
  obtain ⟨rfl, rfl⟩ := hans.one hans'
  have hG : EvIn w9 aG L.length kG fg L := ⟨hG0, hFg.within.wide (Nat.zero_le _) (Nat.le_refl _)⟩
  have hlen := EvLen hans
  replace hs := hs.b z1
  replace hc := hc.b z1
  replace x0 := x0.b z1
  replace y0 := y0.b z1
  replace hL := hL.b z1
  replace hx := hx.b z1
  replace hy := hy.b z1
  replace b0 := b0.trans (z1.mono b0.size)
  replace k8 := k8.trans (z1.mono k8.size)
  replace k6 := k6.trans (z1.mono k6.size)
  have q9 := z1.size
  have k9 : Below w9.heap.size w9 w9 := Below.refl _ _
  clear z1 hG0 hans'
  go_wp2_with fail
  refine (eqSignalEventS_any _ aG aL _ kG _ kL fg fl L L hG.e hL.e hG.w hL.w).mono ?_
  rintro e w10 ⟨rfl, z1⟩
  rw [show decide (L = L) = true from by simp]
  replace hs := hs.b z1
  replace hc := hc.b z1
  replace x0 := x0.b z1
  replace y0 := y0.b z1
  replace hL := hL.b z1
  replace hx := hx.b z1
  replace hy := hy.b z1
  replace hG := hG.b z1
  replace b0 := b0.trans (z1.mono b0.size)
  replace k9 := k9.trans (z1.mono k9.size)
  replace k8 := k8.trans (z1.mono k8.size)
  replace k6 := k6.trans (z1.mono k6.size)
  have q10 := z1.size
  clear z1
  go_wp2_with fail
  -- the arguments are as they were
  have zD : Below w10.heap.size w10 w10.drew := (Below.refl _ _).drew
  replace hs := hs.b zD
  replace hc := hc.b zD
  replace x0 := x0.b zD
  replace y0 := y0.b zD
  replace hL := hL.b zD
  replace hx := hx.b zD
  replace hy := hy.b zD
  replace hG := hG.b zD
  replace b0 := b0.trans (zD.mono b0.size)
  replace k6 := k6.trans (zD.mono k6.size)
  replace k8 := k8.trans (zD.mono k8.size)
  replace k9 := k9.trans (zD.mono k9.size)
  have q10d : w10.heap.size ≤ w10.drew.heap.size := zD.size
  clear zD
  go_region_held3 (fun w' => w'.cell? ⟨w6.heap.size, 0, none⟩ = some (.slice a0 d.g_Glues.length k0) ∧ w'.cell? ⟨w6.heap.size, 1, none⟩ = some (.slice a1 d.g_Tiles.length k1) ∧ w'.cell? ⟨w.heap.size, 0, none⟩ = some (.slice A0 n0 c0) ∧ w'.cell? ⟨w.heap.size, 1, none⟩ = some (.slice A1 n1 c1))
    (first | exact ⟨y0.c0, y0.c1, x0.c0, x0.c1⟩ | exact ⟨y2.c0, y2.c1, x2.c0, x2.c1⟩ | exact ⟨y1.c0, y1.c1, x1.c0, x1.c1⟩)
    (first | (go_at_call 9; refine (toSignalSet_any _ d A0 n0 c0 f0 hs.g hs.gw A1 n1 c1 f1 hs.t hs.tw ls).mono ?_; rintro e w11 ⟨fr, r0, s0, r1, s1, rfl, hR, hF, z1⟩; obtain ⟨t0, t1, rfl, hw⟩ := SetIn.of_R hR hF; have x1 := x0.b z1; have y1 := y0.b z1; have hx1 := hx.b z1) | (go_at_call 13; refine (eqSignalSet_any _ d d a0 _ k0 g0 hx1.g hx1.gw a1 _ k1 g1 hx1.t hx1.tw r0 _ s0 t0 hw.g hw.gw r1 _ s1 t1 hw.t hw.tw).mono ?_; rintro e w12 ⟨rfl, z2⟩; have x2 := x1.b z2; have y2 := y1.b z2))
  replace hs := (hs.b z1).b z2
  replace hc := (hc.b z1).b z2
  replace x0 := x2
  replace y0 := y2
  replace hL := (hL.b z1).b z2
  replace hx := hx1.b z2
  replace hy := (hy.b z1).b z2
  replace hG := (hG.b z1).b z2
  replace b0 := (b0.trans (z1.mono b0.size)).trans (z2.mono (b0.trans (z1.mono b0.size)).size)
  replace k6 := (k6.trans (z1.mono k6.size)).trans (z2.mono (k6.trans (z1.mono k6.size)).size)
  replace k8 := (k8.trans (z1.mono k8.size)).trans (z2.mono (k8.trans (z1.mono k8.size)).size)
  replace k9 := (k9.trans (z1.mono k9.size)).trans (z2.mono (k9.trans (z1.mono k9.size)).size)
  have q12 : w10.drew.heap.size ≤ w12.heap.size := Nat.le_trans z1.size z2.size
  clear z1 z2 x1 x2 y1 y2 hx1 hw hR hF
  go_wp2_with fail
  refine (toSignalCellS_any _ A2 n2 c2 f2 xs hc.c hc.w lc).mono ?_
  rintro e w13 ⟨fr, r2, s2, rfl, hR, hF, z1⟩
  have hv : CellsIn w13 r2 xs.length s2 fr xs := ⟨hR, hF.within.wide (Nat.zero_le _) (Nat.le_refl _)⟩
  replace hs := hs.b z1
  replace hc := hc.b z1
  replace x0 := x0.b z1
  replace y0 := y0.b z1
  replace hL := hL.b z1
  replace hx := hx.b z1
  replace hy := hy.b z1
  replace hG := hG.b z1
  replace b0 := b0.trans (z1.mono b0.size)
  replace k9 := k9.trans (z1.mono k9.size)
  replace k8 := k8.trans (z1.mono k8.size)
  replace k6 := k6.trans (z1.mono k6.size)
  have q13 := z1.size
  clear z1 hR hF
  go_wp2_with fail
  refine (eqSignalCellS_any _ a2 r2 _ k2 _ s2 fq fr xs xs hy.c hv.c hy.w hv.w).mono ?_
  rintro e w14 ⟨rfl, z1⟩
  replace hs := hs.b z1
  replace hc := hc.b z1
  replace x0 := x0.b z1
  replace y0 := y0.b z1
  replace hL := hL.b z1
  replace hx := hx.b z1
  replace hy := hy.b z1
  replace hG := hG.b z1
  replace b0 := b0.trans (z1.mono b0.size)
  replace k9 := k9.trans (z1.mono k9.size)
  replace k8 := k8.trans (z1.mono k8.size)
  replace k6 := k6.trans (z1.mono k6.size)
  have q14 := z1.size
  clear z1 hv
  rw [show decide (xs = xs) = true from by simp]
  have p0 := y0.c0
  have p1 := y0.c1
  go_wp2_with fail
  clear p0 p1
  -- the arguments are written over
  obtain ⟨nd0, nd1, ndx⟩ := List.nodup_append.1 hFx.nodup
  have ux := unf_b hFx.unf k6
  have uy := unf_b hFy.unf k8
  have ug := unf_b hFg.unf k9
  refine (markSignalSet_any _ d 1 a0 _ k0 g0 hx.g nd0 (fun x h => ux x (List.mem_append_left _ h)) a1 _ k1 g1 hx.t nd1 (fun x h => ux x (List.mem_append_right _ h)) (fun x h h' => ndx x h x h' rfl) (fun x h h' => ndx x h' x h rfl) (by omega) (by omega)).mono ?_
  rintro e w15 ⟨rfl, _, _, zo⟩
  have gx : Within (g0 ++ g1) w5.heap.size w6.heap.size := hFx.within
  have gy : Within fq w7.heap.size w8.heap.size := hFy.within
  have gg : Within fg w8.heap.size w9.heap.size := hFg.within
  have ndy := hFy.nodup
  have ndg := hFg.nodup
  clear hFx hFy hFg k6 k8 k9 hx y0 nd0 nd1 ndx ux
  replace hs := hs.o zo (apart w0 gx (by omega)) (apart w1' gx (by omega))
  replace hc := hc.o zo (apart w2' gx (by omega))
  replace x0 := x0.o zo (fun h => by have := gx _ h; omega)
  replace hL := hL.o zo (apart hLw gx (by omega))
  replace hy := hy.o zo (apart' gy gx (by omega))
  replace hG := hG.o zo (apart' gg gx (by omega))
  replace b0 := b0.trans (zo.below b0.size fun x hx => by have := gx x hx; omega)
  replace uy := fun b h => zo.unf b (uy b h)
  replace ug := fun b h => zo.unf b (ug b h)
  have q15 := zo.size
  clear zo
  go_wp2_with fail
  refine (markSignalCellS_any _ a2 _ k2 fq xs (1 + (cnt_SignalSet d : Nat)) hy.c ndy uy (by omega) (by omega)).mono ?_
  rintro e w16 ⟨rfl, _, zo⟩
  replace hs := hs.o zo (apart w0 gy (by omega)) (apart w1' gy (by omega))
  replace hc := hc.o zo (apart w2' gy (by omega))
  replace x0 := x0.o zo (fun h => by have := gy _ h; omega)
  replace hL := hL.o zo (apart hLw gy (by omega))
  replace hG := hG.o zo (apart' gg gy (by omega))
  replace b0 := b0.trans (zo.below b0.size fun x hx => by have := gy x hx; omega)
  replace ug := fun b h => zo.unf b (ug b h)
  have q16 := zo.size
  clear zo hy uy
  have m3 : ¬ ((1 : Int) + (cnt_SignalSet d : Nat) + (cnt_SignalCellS xs : Nat) < 0) := by omega
  go_wp2_with fail
  refine (eqSignalEventS_any _ aG aL _ kG _ kL fg fl L L hG.e hL.e hG.w hL.w).mono ?_
  rintro e w17 ⟨rfl, z1⟩
  rw [show decide (L = L) = true from by simp]
  replace hs := hs.b z1
  replace hc := hc.b z1
  replace x0 := x0.b z1
  replace hL := hL.b z1
  replace hG := hG.b z1
  replace b0 := b0.trans (z1.mono b0.size)
  replace ug := unf_b ug z1
  have q17 := z1.size
  clear z1
  go_wp2_with fail
  have ce := cnt_evs L
  refine (markSignalEventS_any _ aG _ kG fg L 1 hG.e ndg ug (by omega) (by omega)).mono ?_
  rintro e w18 ⟨rfl, hM, zo⟩
  have hMw : Within fg 0 w18.heap.size := hG.w.wide (Nat.le_refl _) zo.size
  replace hs := hs.o zo (apart w0 gg (by omega)) (apart w1' gg (by omega))
  replace hc := hc.o zo (apart w2' gg (by omega))
  replace x0 := x0.o zo (fun h => by have := gg _ h; omega)
  replace hL := hL.o zo (apart hLw gg (by omega))
  replace b0 := b0.trans (zo.below b0.size fun x hx => by have := gg x hx; omega)
  clear zo hG ug m3
  go_wp2_with fail
  refine (heldSignalEventS_any _ aG _ kG fg L 1 hM hMw (by omega) (by omega)).mono ?_
  rintro e w19 ⟨rfl, z1⟩
  replace hM : EvIn w19 aG L.length kG fg (mk_SignalEventS L 1) := ⟨hM.kb hMw z1, hMw.wide (Nat.le_refl _) z1.size⟩
  replace hs := hs.b z1
  replace hc := hc.b z1
  replace x0 := x0.b z1
  replace hL := hL.b z1
  replace b0 := b0.trans (z1.mono b0.size)
  clear z1 hMw
  have m4 : ¬ ((1 : Int) + (cnt_SignalEventS L : Nat) < 0) := by omega
  have p0 := x0.c0
  have p1 := x0.c1
  go_wp2_with fail
  clear p0 p1
  -- another call
  refine (toSignalSet_any _ d A0 n0 c0 f0 hs.g hs.gw A1 n1 c1 f1 hs.t hs.tw ls).mono ?_
  rintro e w20 ⟨fp, a0, k0, a1, k1, rfl, hR, hF, z1⟩
  obtain ⟨g0, g1, rfl, hu⟩ := SetIn.of_R hR hF
  replace hc := hc.b z1
  replace hL := hL.b z1
  replace hM := hM.b z1
  replace b0 := b0.trans (z1.mono b0.size)
  clear z1 hR hF hs x0
  go_wp2_with fail
  refine (toSignalCellS_any _ A2 n2 c2 f2 xs hc.c hc.w lc).mono ?_
  rintro e w21 ⟨fq, a2, k2, rfl, hR, hF, z1⟩
  have hv : CellsIn w21 a2 xs.length k2 fq xs := ⟨hR, hF.within.wide (Nat.zero_le _) (Nat.le_refl _)⟩
  replace hu := hu.b z1
  replace hL := hL.b z1
  replace hM := hM.b z1
  replace b0 := b0.trans (z1.mono b0.size)
  clear z1 hR hF hc
  go_wp2_with fail
  refine (V.ev_any d temp xs (V.iEv_any d temp xs ss sn) _ a0 _ k0 g0 hu.g hu.gw a1 _ k1 g1 hu.t hu.tw a2 _ k2 fq hv.c hv.w).mono ?_
  rintro e w22 ⟨L', code', fh, aH, kH, rfl, hans', hH0, hF, z1⟩
  obtain ⟨rfl, rfl⟩ := hans.one hans'
  have hH : EvIn w22 aH L.length kH fh L := ⟨hH0, hF.within.wide (Nat.zero_le _) (Nat.le_refl _)⟩
  replace hL := hL.b z1
  replace hM := hM.b z1
  replace b0 := b0.trans (z1.mono b0.size)
  clear z1 hH0 hF hans' hu hv
  go_wp2_with fail
  refine (eqSignalEventS_any _ aH aL _ kH _ kL fh fl L L hH.e hL.e hH.w hL.w).mono ?_
  rintro e w23 ⟨rfl, z1⟩
  rw [show decide (L = L) = true from by simp]
  replace hM := hM.b z1
  replace b0 := b0.trans (z1.mono b0.size)
  clear z1 hH hL
  go_wp2_with fail
  refine (heldSignalEventS_any _ aG _ kG fg L 1 hM.e hM.w (by omega) (by omega)).mono ?_
  rintro e w24 ⟨rfl, z1⟩
  replace b0 := b0.trans (z1.mono b0.size)
  clear z1 hM
  go_wp2_with fail
  go_ret
  exact ⟨rfl, b0⟩

end Go.Proofs.YtpbniieiinhliaaGreat
