/- The operations that write: what becomes of the rows. -/
import Derived.Test.YtpbniieiinhliaaGreatRnA
import Derived.Orders
set_option linter.unusedVariables false
set_option linter.unusedSimpArgs false
namespace Go.Proofs.YtpbniieiinhliaaGreat.V
open Go.RowKit

variable {P : Program} {w w' : World} {D D' : Nat → Prop} {ι ι' : Names}

def updN (ι : Names) (id : Id) (B : Blk) : Names := fun i => if i = id then some B else ι i
theorem updN_same (ι : Names) (id : Id) (B : Blk) : updN ι id B id = some B := if_pos rfl
theorem updN_old {ι : Names} {id : Id} {B : Blk} (h : ι id = none) : ∀ i B', ι i = some B' → updN ι id B i = some B' := fun i B' hi => by
  have : i ≠ id := by rintro rfl; rw [h] at hi; cases hi
  rw [updN, if_neg this]; exact hi
theorem updN_ne {ι : Names} {id i : Id} {B : Blk} (h : i ≠ id) : updN ι id B i = ι i := if_neg h

section
variable {g : Rows} {hs : Nat} {env : Env} {a : Act} {o : Oper} {id : Id} {v : AV}

theorem RowIn.frame {B : Blk} {r : Row} (h : RowIn P w D ι B r) (hb : w'.heap[B.b]? = w.heap[B.b]?) (hr : ∀ a v, Rep P w D ι a v → Rep P w' D' ι' a v) : RowIn P w' D' ι' B r :=
  ⟨h.sz, by obtain ⟨c, T, h1, h2⟩ := h.blk; exact ⟨c, T, hb.trans h1, h2⟩, h.fits, h.len, h.flat, fun i j cs a hi hj => by
    obtain ⟨v, h1, h2⟩ := h.at_ i j cs a hi hj
    exact ⟨v, (World.cell?_of_block (a := ⟨B.b, i * r.sz + j, none⟩) hb).trans h1, hr _ _ h2⟩⟩

theorem Sim.kill (S : Sim P hs D ι g w) (i : Id) : Sim P hs D ι (killR g i) w := by
  refine ⟨S.lo, S.dead, fun id r h => ?_, fun id id' r r' B B' h h' hw hB hB' hb => ?_⟩
  · unfold killR at h; split at h
    · cases h
    · exact S.row id r h
  · unfold killR at h h'
    split at h
    · cases h
    · split at h'
      · cases h'
      · exact S.inj id id' r r' B B' h h' hw hB hB' hb

theorem Sim.sub {g' : Rows} (S : Sim P hs D ι g w) (h : ∀ id r, g' id = some r → g id = some r) : Sim P hs D ι g' w :=
  ⟨S.lo, S.dead, fun id r hr => S.row id r (h id r hr), fun id id' r r' B B' h1 h2 => S.inj id id' r r' B B' (h _ _ h1) (h _ _ h2)⟩
theorem vis_sub {hid : List Nat} {n : Nat} {g : Rows} : ∀ id r, vis hid n g id = some r → g id = some r := fun id r h => by
  cases hid with
  | nil => exact h
  | cons a l =>
    have e : vis (a :: l) n g id = if (a :: l).contains id.site = true ∧ id.ver = n then none else g id := rfl
    rw [e] at h
    by_cases hc : (a :: l).contains id.site = true ∧ id.ver = n
    · rw [if_pos hc] at h; cases h
    · rw [if_neg hc] at h; exact h

/-- All blocks stay: the rows stay. -/
theorem Sim.stay (S : Sim P hs D ι g w) (hb : ∀ b, b < w.heap.size → w'.heap[b]? = w.heap[b]?) (hz : w.heap.size ≤ w'.heap.size) (hD : ∀ b, D b → D' b) (hD' : ∀ b, D' b → b < w'.heap.size) (hnew : ∀ b, D' b → D b ∨ w.heap.size ≤ b) (hι : ∀ id B, ι id = some B → ι' id = some B) : Sim P hs D' ι' g w' := by
  have hr : ∀ a v, Rep P w D ι a v → Rep P w' D' ι' a v := fun a v h => h.frame (fun b hd => hb b (S.dead b hd)) hD hι
  have lt : ∀ {id r B}, g id = some r → ι id = some B → B.b < w.heap.size := fun {id r B} h hB => by
    obtain ⟨B', hB', R, _⟩ := S.row id r h
    rw [hB] at hB'; injection hB' with hB'; subst hB'
    obtain ⟨c, T, h1, _⟩ := R.blk
    exact (Array.getElem?_eq_some_iff.1 h1).1
  refine ⟨Nat.le_trans S.lo hz, hD', fun id r h => ?_, fun id id' r r' B B' h h' hw hB hB' he => ?_⟩
  · obtain ⟨B, hB, R, h1, h2⟩ := S.row id r h
    exact ⟨B, hι _ _ hB, R.frame (hb _ (lt h hB)) hr, h1, fun hw hd => by
      rcases hnew _ hd with hd | hd
      · exact h2 hw hd
      · have := lt h hB; omega⟩
  · obtain ⟨C, hC, _⟩ := S.row id r h
    obtain ⟨C', hC', _⟩ := S.row id' r' h'
    have e1 := hι _ _ hC
    have e2 := hι _ _ hC'
    rw [hB] at e1; injection e1 with e1; subst e1
    rw [hB'] at e2; injection e2 with e2; subst e2
    exact S.inj id id' r r' _ _ h h' hw hC hC' he

theorem Step.stay (S : Sim P hs D ι g w) (hb : ∀ b, b < w.heap.size → w'.heap[b]? = w.heap[b]?) (hz : w.heap.size ≤ w'.heap.size) (e1 : w'.os = w.os) (e2 : w'.tape = w.tape) (e3 : w'.output = w.output) (hD : ∀ b, D b → D' b) (hnew : ∀ b, D' b → D b ∨ w.heap.size ≤ b) (hι : ∀ id B, ι id = some B → ι' id = some B) : Step hs D ι w D' ι' w' :=
  ⟨⟨e1, e2, e3, hz, fun k hk => hb k (Nat.lt_of_lt_of_le hk S.lo)⟩, fun b hd => hb b (S.dead b hd), hD, hι, hnew⟩

/-- A new block for a new name. -/
theorem Sim.alloc (S : Sim P hs D ι g w) {cells : Array Value} {T : TypeId} {r : Row} (hh : w'.heap = w.heap.push (.cells cells T (0, 0))) (hn : ι id = none) (hw : r.w = true) (h1 : r.rows.length * r.sz ≤ cells.size) (h2 : ∀ cs ∈ r.rows, cs.length = r.sz) (h3 : ∀ cs ∈ r.rows, ∀ a ∈ cs, a.cell = true)
    (h4 : ∀ i j cs a, r.rows[i]? = some cs → cs[j]? = some a → ∃ x, cells[i * r.sz + j]? = some x ∧ Rep P w D ι a x) : Sim P hs D (updN ι id ⟨w.heap.size, r.sz, cells.size⟩) (setR g id r) w' := by
  have hb : ∀ b, b < w.heap.size → w'.heap[b]? = w.heap[b]? := fun b hlt => by rw [hh, Array.getElem?_push, if_neg (by omega)]
  have hz : w.heap.size ≤ w'.heap.size := by rw [hh]; simp
  have S' := S.stay (D' := D) (ι' := updN ι id ⟨w.heap.size, r.sz, cells.size⟩) hb hz (fun _ h => h) (fun b hd => Nat.lt_of_lt_of_le (S.dead b hd) hz) (fun _ h => .inl h) (updN_old hn)
  have hr : ∀ a v, Rep P w D ι a v → Rep P w' D (updN ι id ⟨w.heap.size, r.sz, cells.size⟩) a v := fun a v h => h.frame (fun b hd => hb b (S.dead b hd)) (fun _ h => h) (updN_old hn)
  have hnew : w'.heap[w.heap.size]? = some (.cells cells T (0, 0)) := by rw [hh]; simp
  have gone : g id = none := by
    cases hg : g id with
    | none => rfl
    | some q =>
      obtain ⟨B, hB, _⟩ := S.row id q hg
      rw [hn] at hB; cases hB
  have lt : ∀ {i q B}, g i = some q → ι i = some B → B.b < w.heap.size := fun {i q B} h hB => by
    obtain ⟨B', hB', R, _⟩ := S.row i q h
    rw [hB] at hB'; injection hB' with hB'; subst hB'
    obtain ⟨c, T, h1, _⟩ := R.blk
    exact (Array.getElem?_eq_some_iff.1 h1).1
  refine ⟨S'.lo, S'.dead, fun i q h => ?_, fun i i' q q' B B' h h' hqw hB hB' he => ?_⟩
  · unfold setR at h
    split at h
    · rename_i e
      subst e
      injection h with h; subst h
      refine ⟨_, updN_same _ _ _, ⟨rfl, ⟨cells, T, hnew, rfl⟩, h1, h2, h3, fun k j cs a hk hj => ?_⟩, fun _ => S.lo, fun _ hd => ?_⟩
      · obtain ⟨x, hx, hrx⟩ := h4 k j cs a hk hj
        exact ⟨x, by simp [World.cell?, hnew, hx], hr _ _ hrx⟩
      · have := S.dead _ hd; simp at this
    · exact S'.row i q h
  · unfold setR at h h'
    split at h
    · rename_i e
      split at h'
      · rename_i e'; exact e.trans e'.symm
      · exfalso
        rename_i e'
        subst e
        rw [updN_same] at hB; injection hB with hB; subst hB
        rw [updN_ne e'] at hB'
        have := lt h' hB'
        simp at he; omega
    · rename_i e
      split at h'
      · exfalso
        rename_i e'
        subst e'
        rw [updN_same] at hB'; injection hB' with hB'; subst hB'
        rw [updN_ne e] at hB
        have := lt h hB
        simp at he; omega
      · exact S'.inj i i' q q' B B' h h' hqw hB hB' he

/-- A row is written anew. -/
theorem Sim.put (S : Sim P hs D ι g w) {r r' : Row} {B : Blk} {cur cur' : Array Value} {T : TypeId} (hid : g id = some r) (hw : r.w = true) (hB : ι id = some B) (hblk : w.heap[B.b]? = some (.cells cur T (0, 0))) (hsz : cur'.size = cur.size)
    (h0 : r'.w = true) (h1 : r'.sz = r.sz) (h2 : r'.rows.length * r'.sz ≤ B.C) (h3 : ∀ cs ∈ r'.rows, cs.length = r'.sz) (h4 : ∀ cs ∈ r'.rows, ∀ a ∈ cs, a.cell = true)
    (h5 : ∀ i j cs a, r'.rows[i]? = some cs → cs[j]? = some a → ∃ v, cur'[i * r.sz + j]? = some v ∧ Rep P w D ι a v) : Sim P hs D ι (setR g id r') (w.setRow B.b cur') ∧ Step hs D ι w D ι (w.setRow B.b cur') := by
  obtain ⟨B0, hB0, R, hlo, hnd⟩ := S.row id r hid
  rw [hB] at hB0; injection hB0 with hB0; subst hB0
  have hd : ∀ b, D b → (w.setRow B.b cur').heap[b]? = w.heap[b]? := fun b hb => setRow_other w B.b b cur' (by rintro rfl; exact hnd hw hb)
  have hr : ∀ a v, Rep P w D ι a v → Rep P (w.setRow B.b cur') D ι a v := fun a v h => h.frame hd (fun _ h => h) (fun _ _ h => h)
  have hC : cur.size = B.C := by
    obtain ⟨c, T', h1, h2⟩ := R.blk
    rw [hblk] at h1; injection h1 with h1; injection h1 with h1 h1'; subst h1; exact h2
  refine ⟨⟨by simpa using S.lo, fun b hb => by simpa using S.dead b hb, fun i q h => ?_, fun i i' q q' C C' h h' hqw hC hC' he => ?_⟩, ⟨⟨by simp, by simp, by simp, by simp, fun k hk => setRow_other w B.b k cur' (by have := hlo hw; omega)⟩, hd, fun _ h => h, fun _ _ h => h, fun _ h => .inl h⟩⟩
  · unfold setR at h
    split at h
    · rename_i e
      subst e
      injection h with h; subst h
      refine ⟨B, hB, ⟨by rw [h1]; exact R.sz, ⟨cur', T, setRow_heap w B.b cur cur' T _ hblk, by rw [hsz]; exact hC⟩, h2, h3, h4, fun k j cs a hk hj => ?_⟩, fun _ => hlo hw, fun _ => hnd hw⟩
      obtain ⟨v, hv, hrv⟩ := h5 k j cs a hk hj
      exact ⟨v, by rw [cell_setRow_same w B.b _ cur cur' T _ hblk, h1]; exact hv, hr _ _ hrv⟩
    · rename_i e
      obtain ⟨C, hC, RC, k1, k2⟩ := S.row i q h
      refine ⟨C, hC, RC.frame (setRow_other w B.b C.b cur' (fun hbb => e ?_)) hr, k1, k2⟩
      exact (S.inj id i r q B C hid h hw hB hC hbb.symm).symm
  · unfold setR at h h'
    have get : ∀ j p, (if j = id then some r' else g j) = some p → ∃ p0, g j = some p0 ∧ (p.w = true → p0.w = true) := fun j p hp => by
      split at hp
      · rename_i e; subst e; injection hp with hp; subst hp; exact ⟨r, hid, fun _ => hw⟩
      · exact ⟨p, hp, fun h => h⟩
    obtain ⟨p, hp, hpw⟩ := get _ _ h
    obtain ⟨p', hp', _⟩ := get _ _ h'
    exact S.inj i i' p p' C C' hp hp' (hpw hqw) hC hC' he

/-- A row takes a new name. -/
theorem Sim.rename (S : Sim P hs D ι g w) {i : Id} {r : Row} {B : Blk} (hi : g i = some r) (hw : r.w = true) (hB : ι i = some B) (hn : ι id = none) : Sim P hs D (updN ι id B) (setR (killR g i) id r) w := by
  have S' := S.stay (w' := w) (D' := D) (ι' := updN ι id B) (fun _ _ => rfl) (Nat.le_refl _) (fun _ h => h) S.dead (fun _ h => .inl h) (updN_old hn)
  have hne : i ≠ id := by rintro rfl; rw [hn] at hB; cases hB
  obtain ⟨B1, hB1, R, k1, k2⟩ := S'.row i r hi
  rw [updN_ne hne, hB] at hB1; injection hB1 with hB1; subst hB1
  have get : ∀ j p, setR (killR g i) id r j = some p → (j = id ∧ p = r) ∨ (j ≠ id ∧ j ≠ i ∧ g j = some p) := fun j p hp => by
    unfold setR killR at hp
    split at hp
    · rename_i e; injection hp with hp; exact .inl ⟨e, hp.symm⟩
    · rename_i e
      split at hp
      · cases hp
      · rename_i e'; exact .inr ⟨e, e', hp⟩
  refine ⟨S.lo, S.dead, fun j p h => ?_, fun j j' p p' C C' h h' hpw hC hC' he => ?_⟩
  · rcases get j p h with ⟨rfl, rfl⟩ | ⟨_, _, hp⟩
    · exact ⟨B, updN_same _ _ _, R, k1, k2⟩
    · exact S'.row j p hp
  · rcases get j p h with ⟨rfl, rfl⟩ | ⟨q1, q2, hp⟩
    · rcases get j' p' h' with ⟨rfl, rfl⟩ | ⟨q1', q2', hp'⟩
      · rfl
      · exfalso
        rw [updN_same] at hC; injection hC with hC; subst hC
        rw [updN_ne q1'] at hC'
        exact q2' (S.inj i j' p p' B C' hi hp' hw hB hC' he).symm
    · rcases get j' p' h' with ⟨rfl, rfl⟩ | ⟨q1', q2', hp'⟩
      · exfalso
        rw [updN_same] at hC'; injection hC' with hC'; subst hC'
        rw [updN_ne q1] at hC
        exact q2 (S.inj j i p p' C B hp hi hpw hC hB he)
      · rw [updN_ne q1] at hC
        rw [updN_ne q1'] at hC'
        exact S.inj j j' p p' C C' hp hp' hpw hC hC' he

/-- What a writing operation does. -/
def ERes (P : Program) (hs : Nat) (a : Act) (o : Oper) (w : World) (D : Nat → Prop) (ι : Names) (id : Id) (v : AV) (g' : Rows) : Prop :=
  ∃ u w' ι', ((execOp a.eval o).run P w = .ok (.value u) w' ∨ (execOp a.eval o).run P w = .ok .skip w' ∧ u = undef) ∧ Step hs D ι w D ι' w' ∧ Sim P hs D ι' g' w' ∧ Rep P w' D ι' v u ∧ ∀ i, i ≠ id → ι' i = ι i

theorem repL_one {xs : List AV} {vs : Array Value} (h : RepL P w D ι xs vs) (hf : ∀ a ∈ xs, a.cell = true) : ∀ v ∈ vs.toList, v.oneCell' = true := by
  intro v hv
  obtain ⟨j, hj, rfl⟩ := List.getElem_of_mem hv
  have hj' : j < xs.length := by rw [← h.1]; simpa using hj
  obtain ⟨u, hu, hr⟩ := h.2 j _ (List.getElem?_eq_getElem hj')
  have hc := hr.cell_val (hf _ (List.getElem_mem hj'))
  have : vs.toList[j] = u := by
    have : vs.toList[j]? = some u := by simpa using hu
    rw [List.getElem?_eq_getElem hj] at this; injection this
  rw [this]
  cases u <;> simp_all [Value.oneCell']

theorem mul_add_lt {i j n m : Nat} (h : i < n) (hj : j < m) : i * m + j < n * m := by
  have : (i + 1) * m ≤ n * m := Nat.mul_le_mul_right _ h
  rw [Nat.add_mul, Nat.one_mul] at this; omega

/-- The cells of a row that is known. -/
theorem RowIn.cur {B : Blk} {r : Row} (R : RowIn P w D ι B r) : ∃ cur T, w.heap[B.b]? = some (.cells cur T (0, 0)) ∧ cur.size = B.C ∧ ∀ i j cs a, r.rows[i]? = some cs → cs[j]? = some a → ∃ v, cur[i * r.sz + j]? = some v ∧ Rep P w D ι a v := by
  obtain ⟨cur, T, h1, h2⟩ := R.blk
  refine ⟨cur, T, h1, h2, fun i j cs a hi hj => ?_⟩
  obtain ⟨v, hv, hr⟩ := R.at_ i j cs a hi hj
  exact ⟨v, by simpa [World.cell?, h1] using hv, hr⟩

theorem e_store {t : TypeId} {n : Nat} {x y : Operand} {x' y' : O} {g' : Rows} (S : Sim P hs D ι g w) (E : EnvRep P w D ι env a) (ho : o.op = .store t x y) (hn : cSize P t = some n) (hx : cO P x = some x') (hy : cO P y = some y')
    (hv : vstore g n (evO env y') (evO env x') = some g') : ERes P hs a o w D ι id .undef g' := by
  have rx := rep_O E hx
  have ry := rep_O E hy
  unfold vstore at hv
  split at hv
  · rename_i i k off hp
    rw [hp] at rx
    simp only [Option.bind_eq_some_iff] at hv
    obtain ⟨r, hg, cs, hcs, hv⟩ := hv
    split at hv
    · rename_i hc
      obtain ⟨c1, c2, c3, c4⟩ := hc
      simp at hv; subst hv
      obtain ⟨B, he, hB⟩ := rep_ptr rx
      obtain ⟨B', hB', R, hlo, hnd⟩ := S.row i r hg
      rw [hB] at hB'; injection hB' with hB'; subst hB'
      obtain ⟨cur, T, hblk, hC, hcur⟩ := R.cur
      have hL := repL_cells ry c3
      have h1 := repL_one hL (List.all_eq_true.1 c3)
      have hvs : (a.eval y).cells.size = n := by rw [hL.1, c2]
      have hkl := (List.getElem?_eq_some_iff.1 hcs).1
      have hlen := R.len cs (List.mem_of_getElem? hcs)
      have hbound : k * r.sz + r.sz ≤ r.rows.length * r.sz := by
        have : (k + 1) * r.sz ≤ r.rows.length * r.sz := Nat.mul_le_mul_right _ hkl
        rwa [Nat.add_mul, Nat.one_mul] at this
      have hf := R.fits
      have hst := run_storeCells_at P B.b (k * B.sz + off) T (a.eval y).cells.toList 0 cur w hblk (by rw [R.sz]; simp only [Array.length_toList]; omega) h1
      simp only [Nat.add_zero, Array.length_toList] at hst
      have hput := S.put (r' := { r with rows := r.rows.set k (putCs cs off (evO env y').cells) }) hg c1 hB hblk (cur' := (cur.toList.take (k * B.sz + off) ++ (a.eval y).cells.toList ++ cur.toList.drop (k * B.sz + off + (a.eval y).cells.size)).toArray)
        (by rw [R.sz]; simp; omega) c1 rfl (by simpa using R.fits) (fun c hcm => by
          rcases List.mem_or_eq_of_mem_set hcm with h | rfl
          · exact R.len c h
          · simp [putCs]; omega) (fun c hcm b hb => by
          rcases List.mem_or_eq_of_mem_set hcm with h | rfl
          · exact R.flat c h b hb
          · unfold putCs at hb
            rcases List.mem_append.1 hb with hb | hb
            · rcases List.mem_append.1 hb with hb | hb
              · exact R.flat cs (List.mem_of_getElem? hcs) b (List.mem_of_mem_take hb)
              · exact List.all_eq_true.1 c3 b hb
            · exact R.flat cs (List.mem_of_getElem? hcs) b (List.mem_of_mem_drop hb)) (fun i2 j c b hi2 hj => by
          rw [R.sz]
          simp only [List.getElem?_toArray]
          by_cases hik : i2 = k
          · subst hik
            rw [List.getElem?_set_self hkl] at hi2
            injection hi2 with hi2; subst hi2
            unfold putCs at hj
            by_cases hjo : j < off
            · rw [List.append_assoc, List.getElem?_append_left (by simp; omega), List.getElem?_take, if_pos hjo] at hj
              rw [List.append_assoc, List.getElem?_append_left (by simp; omega), List.getElem?_take, if_pos (by omega)]
              simpa using hcur _ _ _ _ hcs hj
            · by_cases hjn : j < off + n
              · rw [List.append_assoc, List.getElem?_append_right (by simp; omega), List.getElem?_append_left (by simp; omega)] at hj
                rw [List.append_assoc, List.getElem?_append_right (by simp; omega), List.getElem?_append_left (by simp; omega)]
                simp only [List.length_take] at hj ⊢
                rw [show j - min off cs.length = j - off by omega] at hj
                rw [show i2 * r.sz + j - min (i2 * r.sz + off) cur.toList.length = j - off by simp; omega]
                simpa using hL.2 _ _ hj
              · rw [List.getElem?_append_right (by simp; omega)] at hj
                rw [List.getElem?_append_right (by simp; omega)]
                simp only [List.length_append, List.length_take, List.getElem?_drop, Array.length_toList] at hj ⊢
                rw [show off + (evO env y').cells.length + (j - (min off cs.length + (evO env y').cells.length)) = j by omega] at hj
                rw [show i2 * r.sz + off + (a.eval y).cells.size + (i2 * r.sz + j - (min (i2 * r.sz + off) cur.size + (a.eval y).cells.size)) = i2 * r.sz + j by omega]
                simpa using hcur _ _ _ _ hcs hj
          · rw [List.getElem?_set_ne (fun e => hik e.symm)] at hi2
            have hi2l := (List.getElem?_eq_some_iff.1 hi2).1
            have hjl : j < r.sz := by rw [← R.len c (List.mem_of_getElem? hi2)]; exact (List.getElem?_eq_some_iff.1 hj).1
            have := hcur _ _ _ _ hi2 hj
            rcases Nat.lt_or_gt_of_ne hik with hlt | hgt
            · have h2 : i2 * r.sz + j < k * r.sz := mul_add_lt hlt hjl
              rw [List.append_assoc, List.getElem?_append_left (by simp; omega), List.getElem?_take, if_pos (by omega)]
              simpa using this
            · have h2 : k * r.sz + r.sz ≤ i2 * r.sz := by
                have : (k + 1) * r.sz ≤ i2 * r.sz := Nat.mul_le_mul_right _ hgt
                rwa [Nat.add_mul, Nat.one_mul] at this
              rw [List.getElem?_append_right (by simp; omega)]
              simp only [List.length_append, List.length_take, List.getElem?_drop, Array.length_toList]
              rw [show k * r.sz + off + (a.eval y).cells.size + (i2 * r.sz + j - (min (k * r.sz + off) cur.size + (a.eval y).cells.size)) = i2 * r.sz + j by omega]
              simpa using this)
      refine ⟨undef, _, ι, .inr ⟨?_, rfl⟩, hput.2, hput.1, Rep.undef, fun _ _ => rfl⟩
      simp only [execOp, ho, he, Instr.storeAt, Instr.sureAddr, storeVar, Sem.run_bind, Sem.run_pure, Result.andThen_ok, run_sizeOf hn, hvs, ne_eq, not_true_eq_false, if_false, hst]
    · simp at hv
  · simp at hv

end
end Go.Proofs.YtpbniieiinhliaaGreat.V

namespace Go.Proofs.YtpbniieiinhliaaGreat.V
open Go.RowKit

variable {P : Program} {w w' : World} {D D' : Nat → Prop} {ι ι' : Names}
section
variable {g : Rows} {hs : Nat} {env : Env} {a : Act} {o : Oper} {id : Id} {v : AV}

/-- Rows to be read: where their cells lie. -/
theorem rows_at (S : Sim P hs D ι g w) {y : AV} {u : Value} {ys : List (List AV)} {sz : Nat} (hr : Rep P w D ι y u) (hy : rowsIn g y = some ys) (hl : ∀ c ∈ ys, c.length = sz) (hf : ∀ c ∈ ys, ∀ b ∈ c, b.cell = true) :
    ∃ A c, u = .slice A ys.length c ∧ (ys = [] ∨ ∃ b o, ∃ news : List Value, A = some ⟨b, o, none⟩ ∧ news.length = ys.length * sz ∧ (∀ j v, news[j]? = some v → w.cell? ⟨b, o + j, none⟩ = some v) ∧ RepL P w D ι ys.flatten news.toArray ∧ ∀ v ∈ news, v.oneCell' = true) := by
  have fin : ∀ b o, ys ≠ [] → (∀ i j cs x, ys[i]? = some cs → cs[j]? = some x → ∃ v, w.cell? ⟨b, o + (i * sz + j), none⟩ = some v ∧ Rep P w D ι x v) →
      ∃ news : List Value, news.length = ys.length * sz ∧ (∀ j v, news[j]? = some v → w.cell? ⟨b, o + j, none⟩ = some v) ∧ RepL P w D ι ys.flatten news.toArray ∧ ∀ v ∈ news, v.oneCell' = true := by
    intro b o _ h
    have hlen := flat_len hl
    have at_ : ∀ k, k < ys.length * sz → ∃ x, ys.flatten[k]? = some x ∧ ∃ v, w.cell? ⟨b, o + k, none⟩ = some v ∧ Rep P w D ι x v := by
      intro k hk
      have hpos : 0 < sz := by
        rcases Nat.eq_zero_or_pos sz with h0 | h0
        · subst h0; simp at hk
        · exact h0
      have hi : k / sz < ys.length := Nat.div_lt_of_lt_mul (by rw [Nat.mul_comm]; exact hk)
      have hj : k % sz < sz := Nat.mod_lt _ hpos
      have hcs := List.getElem?_eq_getElem hi
      have hjl : k % sz < ys[k / sz].length := by rw [hl _ (List.getElem_mem hi)]; exact hj
      have hx := List.getElem?_eq_getElem hjl
      have e : k / sz * sz + k % sz = k := by rw [Nat.mul_comm]; exact Nat.div_add_mod _ _
      refine ⟨_, by rw [← flat_get hl hcs hx, e], ?_⟩
      obtain ⟨v, hv, hrv⟩ := h _ _ _ _ hcs hx
      rw [e] at hv
      exact ⟨v, hv, hrv⟩
    let news := (List.range (ys.length * sz)).map fun k => (w.cell? ⟨b, o + k, none⟩).getD undef
    have hn : ∀ k, k < ys.length * sz → ∀ v, w.cell? ⟨b, o + k, none⟩ = some v → news[k]? = some v := fun k hk v hv => by
      simp only [news, List.getElem?_map, List.getElem?_range hk, Option.map_some, hv, Option.getD_some]
    have hR : RepL P w D ι ys.flatten news.toArray := ⟨by simp [news, hlen], fun j x hx => by
      have hjl := (List.getElem?_eq_some_iff.1 hx).1
      rw [hlen] at hjl
      obtain ⟨x', hx', v, hv, hrv⟩ := at_ j hjl
      rw [hx] at hx'; injection hx' with hx'; subst hx'
      exact ⟨v, by simpa using hn j hjl v hv, hrv⟩⟩
    refine ⟨news, by simp [news], fun j v hj => ?_, hR, ?_⟩
    · have hjl : j < ys.length * sz := by have := (List.getElem?_eq_some_iff.1 hj).1; simpa [news] using this
      obtain ⟨x, _, v', hv', _⟩ := at_ j hjl
      rw [hn j hjl v' hv'] at hj
      injection hj with hj
      rw [← hj]; exact hv'
    · have := repL_one hR (fun x hx => by
        obtain ⟨c, hc, hxc⟩ := List.mem_flatten.1 hx
        exact hf c hc x hxc)
      simpa using this
  unfold rowsIn at hy
  split at hy
  · simp at hy; subst hy
    exact ⟨none, 0, rep_nils hr, .inl rfl⟩
  · rename_i rows
    simp at hy; subst hy
    obtain ⟨A, c, he, _, _, h3⟩ := rep_sl hr
    refine ⟨A, c, he, ?_⟩
    rcases h3 with h3 | ⟨b, oo, sz', vs, rfl, hD, hl', _, hc, hi⟩
    · exact .inl h3
    · by_cases h0 : rows = []
      · exact .inl h0
      · have hs' : sz' = sz := by
          cases rows with
          | nil => exact (h0 rfl).elim
          | cons c r => rw [← hl' c (by simp), hl c (by simp)]
        subst hs'
        obtain ⟨news, q1, q2, q3, q4⟩ := fin b oo h0 (fun i j cs x hcs hx => ⟨_, hc i j (List.getElem?_eq_some_iff.1 hcs).1 (by rw [← hl' cs (List.mem_of_getElem? hcs)]; exact (List.getElem?_eq_some_iff.1 hx).1), .imm _ _ (hi i j cs x hcs hx)⟩)
        exact .inr ⟨b, oo, news, rfl, q1, q2, q3, q4⟩
  · rename_i i off len
    simp only [Option.bind_eq_some_iff] at hy
    obtain ⟨r, hg, hy⟩ := hy
    split at hy
    · rename_i hle
      simp at hy; subst hy
      obtain ⟨oo, cap, B, he, hB, h1, h2, h3, h4⟩ := rep_own hr
      obtain ⟨B', hB', R, _, _⟩ := S.row i r hg
      rw [hB] at hB'; injection hB' with hB'; subst hB'
      have hlen : ((r.rows.drop off).take len).length = len := by simp; omega
      refine ⟨some ⟨B.b, oo, none⟩, cap, by rw [hlen]; exact he, ?_⟩
      by_cases h0 : (r.rows.drop off).take len = []
      · exact .inl h0
      · have hs' : r.sz = sz := by
          cases hq : (r.rows.drop off).take len with
          | nil => exact (h0 hq).elim
          | cons c q =>
            have hm : c ∈ (r.rows.drop off).take len := by rw [hq]; simp
            rw [← hl c hm, R.len c (List.mem_of_mem_drop (List.mem_of_mem_take hm))]
        have hlp : 0 < len := by rw [← hlen]; exact List.length_pos_iff.2 h0
        have h2' : oo = off * B.sz := by rcases h2 with h2 | h2 <;> omega
        obtain ⟨news, q1, q2, q3, q4⟩ := fin B.b oo h0 (fun i2 j cs x hcs hx => by
          rw [List.getElem?_take] at hcs
          split at hcs
          · rw [List.getElem?_drop] at hcs
            obtain ⟨v, hv, hrv⟩ := R.at_ _ _ _ _ hcs hx
            refine ⟨v, ?_, hrv⟩
            rw [h2', R.sz, ← hs']
            rw [Nat.add_mul] at hv
            rw [← Nat.add_assoc]
            exact hv
          · simp at hcs)
        exact .inr ⟨B.b, oo, news, rfl, q1, q2, q3, q4⟩
    · simp at hy
  · simp at hy

theorem run_append0 {t ty e : TypeId} {i : TypeInfo} (ht : P.underlying t = some (.slice e)) (hi : P.info? e = some i) (A : Option Addr) (n c : Nat) (hn : n ≤ c) (B : Option Addr) (d : Nat) :
    (Builtin.append_ #[t, t] ty #[.slice A n c, .slice B 0 d]).run P w = .ok (.slice A n c) w := by
  have hf : (Builtin.firstCells i.size 0 (.slice B 0 d)).run P w = .ok #[] w := by
    cases B <;> simp [Builtin.firstCells, loadCells, loadCellsFrom]
  cases A with
  | none => simp [Builtin.append_, run_underlying ht, sizeOf, typeInfo, hi, Builtin.lenOf, hn, hf]
  | some A => simp [Builtin.append_, run_underlying ht, sizeOf, typeInfo, hi, Builtin.lenOf, hn, hf, storeCells]

/-- In place, whatever the block was made as. -/
theorem run_append_in {t ty e T : TypeId} {i : TypeInfo} (ht : P.underlying t = some (.slice e)) (hi : P.info? e = some i) (b sLen sCap : Nat) (cur : Array Value) (hg : w.heap[b]? = some (.cells cur T (0, 0)))
    (x : Addr) (m c : Nat) (news : List Value) (hl : news.length = m * i.size) (hnews : ∀ j u, news[j]? = some u → w.cell? (x.add j) = some u) (h1 : ∀ u ∈ news, u.oneCell' = true)
    (hroom : sLen + m ≤ sCap) (hfit : sLen * i.size + news.length ≤ cur.size) :
    (Builtin.append_ #[t, t] ty #[.slice (some ⟨b, 0, none⟩) sLen sCap, .slice (some x) m c]).run P w =
      .ok (.slice (some ⟨b, 0, none⟩) (sLen + m) sCap) (w.setRow b (cur.toList.take (sLen * i.size) ++ news ++ cur.toList.drop (sLen * i.size + news.length)).toArray) := by
  have hf := run_firstCells_some (P := P) w i.size m x m c news hl hnews
  have hst := run_storeCells_at P b (sLen * i.size) T news 0 cur w hg (by simpa using hfit) h1
  simp only [Nat.add_zero] at hst
  simp [Builtin.append_, run_underlying ht, sizeOf, typeInfo, hi, Builtin.lenOf, hroom, hf, add_mk, hst]

theorem grown_le (w : World) (need old : Nat) (e : TypeId) (h : need ≤ most) : need ≤ grownCap w need old e ∧ grownCap w need old e ≤ maxLen := by
  unfold most at h
  simp only [grownCap, Question.cut, maxLen]
  have := Nat.mod_lt (w.tape w.drawn (.appendCap need old e)) (show 0 < 2 ^ 63 - need by omega)
  omega

theorem run_exec_append {x y : Operand} {t : TypeId} {u : Value} (ho : o.op = .call { callee := .builtin .append, args := #[x, y], argTypes := #[t, t] }) (h : (Builtin.append_ #[t, t] o.type #[a.eval x, a.eval y]).run P w = .ok u w') : (execOp a.eval o).run P w = .ok (.value u) w' := by
  simp only [execOp, ho, resolve, Sem.run_bind, Sem.run_pure, Result.andThen_ok, invoke, builtin]
  simp only [List.map_toArray, List.map_cons, List.map_nil]
  rw [h]; rfl

theorem step_new {T : TypeId} (S : Sim P hs D ι g w) (cells : Array Value) (hn : ι id = none) (B : Blk) : Step hs D ι w D (updN ι id B) (w.drew.alloc (.cells cells T)) :=
  Step.stay S (fun k hk => by show (w.heap.push _)[k]? = _; rw [Array.getElem?_push, if_neg (by omega)]) (by show _ ≤ (w.heap.push _).size; simp) rfl rfl rfl (fun _ h => h) (fun _ h => .inl h) (updN_old hn)

theorem e_append {x y : Operand} {x' y' : O} {t e : TypeId} {m : Nat} {z : List K} {i : TypeInfo} {ys : List (List AV)} {g' : Rows} (S : Sim P hs D ι g w) (E : EnvRep P w D ι env a) (hn : ι id = none) (ho : o.op = .call { callee := .builtin .append, args := #[x, y], argTypes := #[t, t] })
    (ht : P.underlying t = some (.slice e)) (hsz : cSize P e = some (m + 1)) (hz : cZero P e = some z) (hi : P.info? e = some i) (hby : i.bytes ≤ 32768) (hx : cO P x = some x') (hy : cO P y = some y') (hys : rowsIn g (evO env y') = some ys)
    (hv : vappend g id (m + 1) (evO env x') ys = some (v, g')) : ERes P hs a o w D ι id v g' := by
  have rx := rep_O E hx
  have ry := rep_O E hy
  obtain ⟨it, zv, hi', hzv, hzs, hm, hzl⟩ := zero_info hz
  rw [hi] at hi'; injection hi' with hi'; subst hi'
  have hisz : i.size = m + 1 := by simpa [cSize, hi] using hsz
  have fits : ∀ n, n ≤ most → n * i.bytes ≤ 140737488355328 := fun n h => by
    unfold most at h
    have := Nat.mul_le_mul h hby
    omega
  have e63 : ∀ n, n ≤ most → (n : Int) ≤ 9223372036854775807 := fun n h => by unfold most at h; omega
  have same : ∀ (w1 : World) (cells : Array Value), w1 = w.drew.alloc (.cells cells e) → w1.heap = w.heap.push (.cells cells e (0, 0)) := fun w1 cells h => by subst h; rfl
  have all2 : ∀ l : List (List AV), (l.all fun c => c.length == m + 1 && c.all AV.cell) = true → (∀ c ∈ l, c.length = m + 1) ∧ ∀ c ∈ l, ∀ b ∈ c, b.cell = true := fun l h => by
    rw [List.all_eq_true] at h
    refine ⟨fun c hc => ?_, fun c hc b hb => ?_⟩
    · have := h c hc; simp at this; exact this.1
    · have := h c hc; simp at this; exact this.2 b hb
  unfold vappend at hv
  split at hv
  · rename_i hb
    rw [hb] at rx
    have ex := rep_nils rx
    split at hv
    · simp at hv
      obtain ⟨rfl, rfl⟩ := hv
      obtain ⟨A, c, ey, _⟩ := rows_at (sz := m + 1) S ry hys (fun c h => by cases h) (fun c h => by cases h)
      refine ⟨_, w, ι, .inl (run_exec_append ho (by rw [ex, ey]; exact run_append0 ht hi none 0 0 (Nat.le_refl _) A c)), Step.refl _ _ _ _, S, .imm _ _ .nils, fun _ _ => rfl⟩
    · rename_i y0 yr
      split at hv
      · rename_i hc
        simp only [Option.some.injEq, Prod.mk.injEq] at hv
        obtain ⟨rfl, rfl⟩ := hv
        obtain ⟨hl, hf⟩ := all2 _ hc.2
        obtain ⟨A, c, ey, h2⟩ := rows_at (sz := m + 1) S ry hys hl hf
        rcases h2 with h2 | ⟨b, oo, news, rfl, q1, q2, q3, q4⟩
        · cases h2
        have hrun := run_append_nil (P := P) w t o.type e i zv ht hi hzv ⟨b, oo, none⟩ (y0 :: yr).length c news (by rw [hisz]; exact q1) (fun j v hj => by rw [add_mk]; exact q2 j v hj) (by simp) (e63 _ hc.1) (by have := fits _ hc.1; omega)
        obtain ⟨g1, g2⟩ := grown_le w (y0 :: yr).length 0 e hc.1
        have hcs : (news.toArray ++ Builtin.zeroCells zv.cells (grownCap w (y0 :: yr).length 0 e - (y0 :: yr).length)).size = grownCap w (y0 :: yr).length 0 e * (m + 1) := by
          rw [Array.size_append, size_zeroCells, hzs, hisz]
          simp only [List.size_toArray, q1]
          rw [← Nat.add_mul]; congr 1; omega
        have S1 := S.alloc (w' := w.drew.alloc (.cells (news.toArray ++ Builtin.zeroCells zv.cells (grownCap w (y0 :: yr).length 0 e - (y0 :: yr).length)) e)) (r := ⟨true, m + 1, y0 :: yr⟩) rfl hn rfl (by rw [hcs]; exact Nat.mul_le_mul_right _ g1) hl hf
          (fun k j cs b2 hk hj => by
            obtain ⟨u, hu, hru⟩ := q3.2 _ _ (flat_get hl hk hj)
            refine ⟨u, ?_, hru⟩
            have hlt := (Array.getElem?_eq_some_iff.1 hu).1
            dsimp only
            rw [Array.getElem?_append_left hlt]; exact hu)
        have hst := step_new (T := e) S (news.toArray ++ Builtin.zeroCells zv.cells (grownCap w (y0 :: yr).length 0 e - (y0 :: yr).length)) hn ⟨w.heap.size, m + 1, (news.toArray ++ Builtin.zeroCells zv.cells (grownCap w (y0 :: yr).length 0 e - (y0 :: yr).length)).size⟩
        refine ⟨_, _, _, .inl (run_exec_append ho (by rw [ex, ey]; exact hrun)), hst, S1, ?_, fun _ h => updN_ne h⟩
        refine .own _ _ _ _ _ _ (updN_same _ _ _) g1 (.inr (by simp)) ?_ g2
        dsimp only; rw [hcs]; simp
      · simp at hv
  · rename_i i0 len hb
    rw [hb] at rx
    simp only [Option.bind_eq_some_iff] at hv
    obtain ⟨r, hg, hv⟩ := hv
    split at hv
    · rename_i hc
      obtain ⟨c1, c2, c3, c4, c5⟩ := hc
      simp only [Option.some.injEq, Prod.mk.injEq] at hv
      obtain ⟨rfl, rfl⟩ := hv
      obtain ⟨hl, hf⟩ := all2 _ c5
      obtain ⟨A, c, ey, h2⟩ := rows_at (sz := m + 1) S ry hys hl hf
      obtain ⟨oo, cap, B, ex, hB, h1, h2', h3, h4⟩ := rep_own rx
      obtain ⟨B', hB', R, hlo, hnd⟩ := S.row _ _ hg
      rw [hB] at hB'; injection hB' with hB'; subst hB'
      have hBs : B.sz = m + 1 := R.sz.trans c2
      have lenAll : ∀ cs ∈ r.rows ++ ys, cs.length = m + 1 := fun cs hcs => by
        rcases List.mem_append.1 hcs with h | h
        · rw [← c2]; exact R.len cs h
        · exact hl cs h
      have flAll : ∀ cs ∈ r.rows ++ ys, ∀ b ∈ cs, b.cell = true := fun cs hcs => by
        rcases List.mem_append.1 hcs with h | h
        · exact R.flat cs h
        · exact hf cs h
      rcases h2 with rfl | ⟨yb, yo, news, rfl, q1, q2, q3, q4⟩
      · have hren := S.rename hg c1 hB hn
        refine ⟨_, w, updN ι id B, .inl (run_exec_append ho (by rw [ex, ey]; exact run_append0 ht hi _ _ _ h1 A c)), ⟨Below.refl _ _, fun _ _ => rfl, fun _ h => h, updN_old hn, fun _ h => .inl h⟩, ?_, ?_, fun _ h => updN_ne h⟩
        · have : (⟨true, m + 1, r.rows ++ []⟩ : Row) = r := by cases r; simp_all
          rw [this]; exact hren
        · simp only [List.length_nil, Nat.add_zero]
          exact .own _ _ _ _ _ B (updN_same _ _ _) h1 h2' h3 h4
      · obtain ⟨cur, T, hblk, hC, hcur⟩ := R.cur
        by_cases hroom : len + ys.length ≤ cap
        · have hoo : ys ≠ [] → oo = 0 := fun h => by
            rcases h2' with h2' | h2'
            · have := List.length_pos_iff.2 h; omega
            · simpa using h2'
          by_cases hy0 : ys = []
          · subst hy0
            have hren := S.rename hg c1 hB hn
            refine ⟨_, w, updN ι id B, .inl (run_exec_append ho (by rw [ex, ey]; exact run_append0 ht hi _ _ _ h1 _ c)), ⟨Below.refl _ _, fun _ _ => rfl, fun _ h => h, updN_old hn, fun _ h => .inl h⟩, ?_, ?_, fun _ h => updN_ne h⟩
            · have : (⟨true, m + 1, r.rows ++ []⟩ : Row) = r := by cases r; simp_all
              rw [this]; exact hren
            · simp only [List.length_nil, Nat.add_zero]
              exact .own _ _ _ _ _ B (updN_same _ _ _) h1 h2' h3 h4
          have ho0 := hoo hy0
          subst ho0
          have hfit : len * i.size + news.length ≤ cur.size := by
            rw [hisz, q1, hC, ← Nat.add_mul]
            refine Nat.le_trans ?_ h3
            rw [hBs, Nat.zero_add]
            exact Nat.mul_le_mul_right _ hroom
          have hrun := run_append_in (ty := o.type) ht hi B.b len cap cur hblk ⟨yb, yo, none⟩ ys.length c news (by rw [hisz]; exact q1) (fun j v hj => by rw [add_mk]; exact q2 j v hj) q4 hroom hfit
          have hcl : cur.toList.length = cur.size := Array.length_toList
          simp only [hisz] at hrun hfit
          obtain ⟨P1, P2⟩ := S.put (r' := ⟨true, m + 1, r.rows ++ ys⟩) hg c1 hB hblk (cur' := (cur.toList.take (len * (m + 1)) ++ news ++ cur.toList.drop (len * (m + 1) + news.length)).toArray) (by simp only [List.size_toArray, List.length_append, List.length_take, List.length_drop, hcl]; omega) rfl c2.symm
            (by dsimp only; rw [List.length_append, ← c3, ← hBs]; refine Nat.le_trans (Nat.mul_le_mul_right _ hroom) (Nat.le_trans (by simp) h3)) lenAll flAll (fun k j cs b2 hk hj => by
              simp only [List.getElem?_toArray]
              have hjl : j < m + 1 := by rw [← lenAll cs (List.mem_of_getElem? hk)]; exact (List.getElem?_eq_some_iff.1 hj).1
              rw [c2]
              by_cases hkl : k < r.rows.length
              · rw [List.getElem?_append_left hkl] at hk
                have h2 : k * (m + 1) + j < len * (m + 1) := mul_add_lt (by omega) hjl
                rw [List.append_assoc, List.getElem?_append_left (by simp only [List.length_take, hcl]; omega), List.getElem?_take, if_pos h2]
                have := hcur k j cs b2 hk hj
                rw [c2] at this; simpa using this
              · rw [List.getElem?_append_right (by omega)] at hk
                have hk2 := (List.getElem?_eq_some_iff.1 hk).1
                have hge : len * (m + 1) ≤ k * (m + 1) := Nat.mul_le_mul_right _ (by omega)
                have hsub : k * (m + 1) + j - len * (m + 1) = (k - r.rows.length) * (m + 1) + j := by
                  rw [← c3, Nat.sub_mul]; omega
                obtain ⟨u, hu, hru⟩ := q3.2 _ _ (flat_get hl hk hj)
                refine ⟨u, ?_, hru⟩
                have hu' : news[(k - r.rows.length) * (m + 1) + j]? = some u := by simpa using hu
                have hlt := (List.getElem?_eq_some_iff.1 hu').1
                rw [List.append_assoc, List.getElem?_append_right (by simp only [List.length_take, hcl]; omega), List.getElem?_append_left (by simp only [List.length_take, hcl]; omega)]
                rw [← hu']
                congr 1
                simp only [List.length_take, hcl]
                omega)
          have hset : setR (killR (setR g i0 ⟨true, m + 1, r.rows ++ ys⟩) i0) id ⟨true, m + 1, r.rows ++ ys⟩ = setR (killR g i0) id ⟨true, m + 1, r.rows ++ ys⟩ := by
            funext q; simp only [setR, killR]
            by_cases h : q = id <;> by_cases h' : q = i0 <;> simp [h, h']
          have hren := P1.rename (i := i0) (id := id) (r := ⟨true, m + 1, r.rows ++ ys⟩) (by simp [setR]) rfl hB hn
          rw [hset] at hren
          refine ⟨_, _, _, .inl (run_exec_append ho (by rw [ex, ey]; exact hrun)), P2.trans ⟨Below.refl _ _, fun _ _ => rfl, fun _ h => h, updN_old hn, fun _ h => .inl h⟩, hren, ?_, fun _ h => updN_ne h⟩
          exact .own _ _ _ _ _ B (updN_same _ _ _) hroom (.inr (by simp)) h3 h4
        · -- grows
          have holds : ∃ olds : List Value, olds.length = len * (m + 1) ∧ (∀ j v, olds[j]? = some v → w.cell? ⟨B.b, oo + j, none⟩ = some v) ∧ RepL P w D ι r.rows.flatten olds.toArray := by
            obtain ⟨A2, c2', e2, h2⟩ := rows_at (sz := m + 1) (u := .slice (some ⟨B.b, oo, none⟩) len cap) S (.own i0 0 len oo cap B hB h1 h2' h3 h4) (ys := r.rows) (by simp [rowsIn, hg, c3]) (fun cs h => by rw [← c2]; exact R.len cs h) R.flat
            rcases h2 with h2 | ⟨b2, o2, olds, rfl, p1, p2, p3, _⟩
            · refine ⟨[], by simp [c3, h2], fun j v h => by simp at h, by rw [h2]; exact ⟨rfl, fun j a h => by simp at h⟩⟩
            · injection e2 with e2 _ _
              injection e2 with e2
              injection e2 with e21 e22 _
              subst e21; subst e22
              exact ⟨olds, by rw [p1, c3], p2, p3⟩
          obtain ⟨olds, p1, p2, p3⟩ := holds
          have hrun := run_append_grow (P := P) w t o.type e i zv ht hi hzv ⟨B.b, oo, none⟩ len cap olds (by rw [hisz]; exact p1) (fun j v hj => by rw [add_mk]; exact p2 j v hj) ⟨yb, yo, none⟩ ys.length c news (by rw [hisz]; exact q1) (fun j v hj => by rw [add_mk]; exact q2 j v hj) (by omega) (e63 _ c4) (growslice_fits (by omega) (fits _ c4))
          obtain ⟨g1, g2⟩ := grown_le w (len + ys.length) cap e c4
          have hcs : (olds.toArray ++ news.toArray ++ Builtin.zeroCells zv.cells (grownCap w (len + ys.length) cap e - (len + ys.length))).size = grownCap w (len + ys.length) cap e * (m + 1) := by
            rw [Array.size_append, Array.size_append, size_zeroCells, hzs, hisz]
            simp only [List.size_toArray, q1, p1]
            rw [← Nat.add_mul, ← Nat.add_mul]; congr 1; omega
          have S1 := (S.kill i0).alloc (id := id) (w' := w.drew.alloc (.cells (olds.toArray ++ news.toArray ++ Builtin.zeroCells zv.cells (grownCap w (len + ys.length) cap e - (len + ys.length))) e)) (r := ⟨true, m + 1, r.rows ++ ys⟩) rfl hn rfl (by dsimp only; rw [hcs, List.length_append, ← c3]; exact Nat.mul_le_mul_right _ g1) lenAll flAll
            (fun k j cs b2 hk hj => by
              have hfl := flat_get lenAll hk hj
              rw [List.flatten_append] at hfl
              have hol : olds.length = r.rows.flatten.length := by have := p3.1; simpa using this
              dsimp only
              by_cases hlt : k * (m + 1) + j < r.rows.flatten.length
              · rw [List.getElem?_append_left hlt] at hfl
                obtain ⟨u, hu, hru⟩ := p3.2 _ _ hfl
                refine ⟨u, ?_, hru⟩
                rw [Array.getElem?_append_left (by simp; omega), Array.getElem?_append_left (by simp; omega)]; exact hu
              · rw [List.getElem?_append_right (by omega)] at hfl
                obtain ⟨u, hu, hru⟩ := q3.2 _ _ hfl
                refine ⟨u, ?_, hru⟩
                have hlt2 := (Array.getElem?_eq_some_iff.1 hu).1
                simp only [List.size_toArray] at hlt2
                rw [Array.getElem?_append_left (by simp; omega), Array.getElem?_append_right (by simp; omega)]
                simp only [List.size_toArray, hol]; exact hu)
          have hst := step_new (T := e) S (olds.toArray ++ news.toArray ++ Builtin.zeroCells zv.cells (grownCap w (len + ys.length) cap e - (len + ys.length))) hn ⟨w.heap.size, m + 1, (olds.toArray ++ news.toArray ++ Builtin.zeroCells zv.cells (grownCap w (len + ys.length) cap e - (len + ys.length))).size⟩
          refine ⟨_, _, _, .inl (run_exec_append ho (by rw [ex, ey]; exact hrun)), hst, S1, ?_, fun _ h => updN_ne h⟩
          refine .own _ _ _ _ _ _ (updN_same _ _ _) g1 (.inr (by simp)) ?_ g2
          dsimp only; rw [hcs]; simp
    · simp at hv
  · simp at hv

theorem run_exec_clear {x : Operand} {t : TypeId} {u : Value} (ho : o.op = .call { callee := .builtin .clear, args := #[x], argTypes := #[t] }) (h : (Builtin.clear_ #[t] o.type #[a.eval x]).run P w = .ok u w') : (execOp a.eval o).run P w = .ok (.value u) w' := by
  simp only [execOp, ho, resolve, Sem.run_bind, Sem.run_pure, Result.andThen_ok, invoke, builtin]
  simp only [List.map_toArray, List.map_cons, List.map_nil]
  rw [h]; rfl

theorem e_clear {x : Operand} {x' : O} {t e : TypeId} {m : Nat} {z : List K} {g' : Rows} (S : Sim P hs D ι g w) (E : EnvRep P w D ι env a) (ho : o.op = .call { callee := .builtin .clear, args := #[x], argTypes := #[t] })
    (ht : P.underlying t = some (.slice e)) (hsz : cSize P e = some (m + 1)) (hz : cZero P e = some z) (hx : cO P x = some x') (hv : vclear g z (evO env x') = some g') : ERes P hs a o w D ι id .undef g' := by
  have rx := rep_O E hx
  obtain ⟨it, zv, hi, hzv, hzs, hm, hzl⟩ := zero_info hz
  have hisz : it.size = m + 1 := by simpa [cSize, hi] using hsz
  unfold vclear at hv
  split at hv
  · rename_i hb
    rw [hb] at rx
    simp at hv; subst hv
    refine ⟨undef, w, ι, .inl (run_exec_clear ho (by rw [rep_nils rx]; simp only [Builtin.clear_, Sem.run_bind]; simp [run_underlying ht, undef])), Step.refl _ _ _ _, S, Rep.undef, fun _ _ => rfl⟩
  · rename_i i off len hb
    rw [hb] at rx
    simp only [Option.bind_eq_some_iff] at hv
    obtain ⟨r, hg, hv⟩ := hv
    split at hv
    · rename_i hc
      obtain ⟨c1, c2, c3⟩ := hc
      simp only [Option.some.injEq] at hv; subst hv
      obtain ⟨oo, cap, B, ex, hB, h1, h2, h3, h4⟩ := rep_own rx
      obtain ⟨B', hB', R, hlo, hnd⟩ := S.row _ _ hg
      rw [hB] at hB'; injection hB' with hB'; subst hB'
      obtain ⟨cur, T, hblk, hC, hcur⟩ := R.cur
      by_cases h0 : len = 0
      · subst h0
        have e1 : ({ r with rows := r.rows.take off ++ List.replicate 0 (z.map K.av) ++ r.rows.drop (off + 0) } : Row) = r := by cases r; simp
        rw [e1]
        have e2 : setR g i r = g := by
          funext q; unfold setR; split
          · rename_i h; rw [h, hg]
          · rfl
        rw [e2]
        refine ⟨undef, w, ι, .inl (run_exec_clear ho (by rw [ex]; simp only [Builtin.clear_, Sem.run_bind]; simp [run_underlying ht, undef])), Step.refl _ _ _ _, S, Rep.undef, fun _ _ => rfl⟩
      · have ho' : oo = off * B.sz := by rcases h2 with h2 | h2 <;> omega
        have hBs : B.sz = m + 1 := by rw [R.sz, c2, hzl, hisz]
        have hrs : r.sz = m + 1 := by rw [← R.sz, hBs]
        have hzv' : zv.cells.size = m + 1 := by rw [hzs, hisz]
        have hzc : (Builtin.zeroCells zv.cells len).toList.length = len * (m + 1) := by rw [Array.length_toList, size_zeroCells, hzv']
        have hzat : ∀ k, k < len * (m + 1) → ∃ c, z[k % z.length]? = some c ∧ (Builtin.zeroCells zv.cells len).toList[k]? = some c.val := fun k hk => by
          obtain ⟨c, hc1, hc2⟩ := zeros_cells (n := len * zv.cells.size) hm (by rw [hzl, hisz]; omega) k (by rw [hzv']; exact hk)
          exact ⟨c, hc1, by rw [Array.getElem?_toList]; exact hc2⟩
        have hbound : (off + len) * (m + 1) ≤ r.rows.length * (m + 1) := Nat.mul_le_mul_right _ c3
        have hfits := R.fits
        rw [hrs] at hfits
        have hexp : (off + len) * (m + 1) = off * (m + 1) + len * (m + 1) := Nat.add_mul _ _ _
        have hst := run_storeCells_at P B.b oo T (Builtin.zeroCells zv.cells len).toList 0 cur w hblk (by rw [hzc, hC, ho', hBs]; omega) (by
          intro v hv
          obtain ⟨k, hk, rfl⟩ := List.getElem_of_mem hv
          obtain ⟨c, _, hc2⟩ := hzat k (by rw [← hzc]; exact hk)
          rw [List.getElem?_eq_getElem hk] at hc2
          injection hc2 with hc2
          rw [hc2]; cases c <;> rfl)
        simp only [Nat.add_zero] at hst
        have hcl : cur.toList.length = cur.size := Array.length_toList
        obtain ⟨P1, P2⟩ := S.put (r' := { r with rows := r.rows.take off ++ List.replicate len (z.map K.av) ++ r.rows.drop (off + len) }) hg c1 hB hblk (cur' := (cur.toList.take oo ++ (Builtin.zeroCells zv.cells len).toList ++ cur.toList.drop (oo + (Builtin.zeroCells zv.cells len).toList.length)).toArray)
          (by simp only [List.size_toArray, List.length_append, List.length_take, List.length_drop, hcl, hzc]; rw [ho', hBs]; omega) c1 rfl (by
            have : (r.rows.take off ++ List.replicate len (z.map K.av) ++ r.rows.drop (off + len)).length = r.rows.length := by simp; omega
            dsimp only; rw [this]; exact R.fits) (fun cs hcs => by
            rcases List.mem_append.1 hcs with h | h
            · rcases List.mem_append.1 h with h | h
              · exact R.len cs (List.mem_of_mem_take h)
              · rw [List.eq_of_mem_replicate h]; simp [c2]
            · exact R.len cs (List.mem_of_mem_drop h)) (fun cs hcs b hb => by
            rcases List.mem_append.1 hcs with h | h
            · rcases List.mem_append.1 h with h | h
              · exact R.flat cs (List.mem_of_mem_take h) b hb
              · rw [List.eq_of_mem_replicate h] at hb
                obtain ⟨c, _, rfl⟩ := List.mem_map.1 hb; exact c.av_cell
            · exact R.flat cs (List.mem_of_mem_drop h) b hb) (fun k j cs b hk hj => by
            simp only [List.getElem?_toArray]
            rw [hrs]
            rw [ho', hBs, hzc]
            by_cases hk1 : k < off
            · rw [List.append_assoc, List.getElem?_append_left (by simp; omega), List.getElem?_take, if_pos hk1] at hk
              have hjl : j < m + 1 := by rw [← hrs, ← R.len cs (List.mem_of_getElem? hk)]; exact (List.getElem?_eq_some_iff.1 hj).1
              have h2 := mul_add_lt hk1 hjl
              rw [List.append_assoc, List.getElem?_append_left (by simp only [List.length_take, hcl]; omega), List.getElem?_take, if_pos h2]
              have := hcur k j cs b hk hj
              rw [hrs] at this; simpa using this
            · by_cases hk2 : k < off + len
              · rw [List.append_assoc, List.getElem?_append_right (by simp; omega), List.getElem?_append_left (by simp; omega)] at hk
                have hrep := List.eq_of_mem_replicate (List.mem_of_getElem? hk)
                subst hrep
                simp only [List.getElem?_map, Option.map_eq_some_iff] at hj
                obtain ⟨q, hq, rfl⟩ := hj
                have hjl := (List.getElem?_eq_some_iff.1 hq).1
                rw [hzl, hisz] at hjl
                have hge : off * (m + 1) ≤ k * (m + 1) := Nat.mul_le_mul_right _ (by omega)
                have hsub : k * (m + 1) + j - off * (m + 1) = (k - off) * (m + 1) + j := by rw [Nat.sub_mul]; omega
                have hlt2 : (k - off) * (m + 1) + j < len * (m + 1) := mul_add_lt (by omega) hjl
                rw [List.append_assoc, List.getElem?_append_right (by simp only [List.length_take, hcl]; omega), List.getElem?_append_left (by simp only [List.length_take, hcl, hzc]; omega)]
                obtain ⟨c, hc1, hc2⟩ := hzat _ hlt2
                rw [hzl, hisz, Nat.mul_comm (k - off), Nat.mul_add_mod, Nat.mod_eq_of_lt hjl, hq] at hc1
                injection hc1 with hc1; subst hc1
                refine ⟨q.val, ?_, rep_k q⟩
                rw [← hc2]
                congr 1
                simp only [List.length_take, hcl]; omega
              · rw [List.getElem?_append_right (by simp; omega)] at hk
                simp only [List.length_append, List.length_take, List.length_replicate, List.getElem?_drop] at hk
                rw [show off + len + (k - (min off r.rows.length + len)) = k by omega] at hk
                have hkl := (List.getElem?_eq_some_iff.1 hk).1
                have hge : (off + len) * (m + 1) ≤ k * (m + 1) := Nat.mul_le_mul_right _ (by omega)
                rw [List.getElem?_append_right (by simp only [List.length_append, List.length_take, hcl, hzc]; omega)]
                simp only [List.length_append, List.length_take, hcl, hzc, List.getElem?_drop]
                rw [show off * (m + 1) + len * (m + 1) + (k * (m + 1) + j - (min (off * (m + 1)) cur.size + len * (m + 1))) = k * (m + 1) + j by omega]
                have := hcur k j cs b hk hj
                rw [hrs] at this; simpa using this)
        refine ⟨undef, _, ι, .inl (run_exec_clear ho ?_), P2, P1, Rep.undef, fun _ _ => rfl⟩
        rw [ex]
        cases len with
        | zero => exact (h0 rfl).elim
        | succ len =>
          simp only [Builtin.clear_, Sem.run_bind]
          simp [run_underlying ht, zeroValue, typeInfo, hi, hzv, hst, undef]
    · simp at hv
  · simp at hv

end
end Go.Proofs.YtpbniieiinhliaaGreat.V

namespace Go.Proofs.YtpbniieiinhliaaGreat.V
open Go.RowKit

variable {P : Program} {w w' : World} {D D' D2 : Nat → Prop} {ι ι' ι2 : Names}
section
variable {g : Rows} {hs : Nat}

theorem fzRow_get : ∀ {n : Nat} {l r : List AV}, fzRow g n l = some r → r.length = l.length ∧ ∀ (j : Nat) (b : AV), r[j]? = some b → ∃ a, l[j]? = some a ∧ fz g n a = some b
  | n, [], r, h => by
    rw [fzRow] at h; simp at h; subst h; simp
  | n, a :: l, r, h => by
    rw [fzRow] at h
    split at h
    · rename_i b hb
      simp only [Option.map_eq_some_iff] at h
      obtain ⟨r', hr, rfl⟩ := h
      obtain ⟨h1, h2⟩ := fzRow_get hr
      refine ⟨by simp [h1], fun j c hj => ?_⟩
      cases j with
      | zero => simp at hj; subst hj; exact ⟨a, rfl, hb⟩
      | succ j => simp at hj ⊢; exact h2 j c hj
    · simp at h
theorem fzRows_get : ∀ {n : Nat} {l r : List (List AV)}, fzRows g n l = some r → r.length = l.length ∧ ∀ (j : Nat) (b : List AV), r[j]? = some b → ∃ a, l[j]? = some a ∧ fzRow g n a = some b
  | n, [], r, h => by
    rw [fzRows] at h; simp at h; subst h; simp
  | n, a :: l, r, h => by
    rw [fzRows] at h
    split at h
    · rename_i b hb
      simp only [Option.map_eq_some_iff] at h
      obtain ⟨r', hr, rfl⟩ := h
      obtain ⟨h1, h2⟩ := fzRows_get hr
      refine ⟨by simp [h1], fun j c hj => ?_⟩
      cases j with
      | zero => simp at hj; subst hj; exact ⟨a, rfl, hb⟩
      | succ j => simp at hj ⊢; exact h2 j c hj
    · simp at h

theorem fz_sound (hD : ∀ b, D b → D2 b) (blk : ∀ id row, g id = some row → row.w = true → ∃ B, ι id = some B ∧ RowIn P w D ι B row ∧ D2 B.b) : ∀ (n : Nat) (a : AV) (u : Value) (r : AV), Rep P w D ι a u → fz g n a = some r → Rep P w D2 ι2 r u ∧ (a.cell = true → Imm P w D2 r u ∧ r.cell = true) := by
  intro n
  induction n with
  | zero => intro a u r _ h; rw [fz] at h; simp at h
  | succ n ih =>
    intro a u r hr h
    have both : ∀ {r : AV}, Imm P w D2 r u → r.cell = true → Rep P w D2 ι2 r u ∧ (a.cell = true → Imm P w D2 r u ∧ r.cell = true) := fun h1 h2 => ⟨.imm _ _ h1, fun _ => ⟨h1, h2⟩⟩
    cases a with
    | own id off len =>
      rw [fz] at h
      split at h
      · rename_i row hg
        split at h
        · rename_i hw
          split at h
          · rename_i hle
            simp only [Option.map_eq_some_iff] at h
            obtain ⟨rows, hrows, rfl⟩ := h
            obtain ⟨B, hB, R, hDB⟩ := blk id row hg hw
            obtain ⟨o, cap, B', rfl, hB', h1, h2, h3, h4⟩ := rep_own hr
            rw [hB] at hB'; injection hB' with hB'; subst hB'
            obtain ⟨l1, l2⟩ := fzRows_get hrows
            have hlen : rows.length = len := by rw [l1]; simp; omega
            by_cases h0 : rows = []
            · subst h0
              simp at hlen; subst hlen
              exact both (.sl0 _ _ h4) rfl
            · have hlp : 0 < len := by rw [← hlen]; exact List.length_pos_iff.2 h0
              have ho : o = off * B.sz := by rcases h2 with h2 | h2 <;> omega
              have src : ∀ i cs, rows[i]? = some cs → ∃ c0, row.rows[off + i]? = some c0 ∧ fzRow g n c0 = some cs := fun i cs hi => by
                obtain ⟨c0, hc0, hf⟩ := l2 i cs hi
                rw [List.getElem?_take] at hc0
                split at hc0
                · rw [List.getElem?_drop] at hc0; exact ⟨c0, hc0, hf⟩
                · simp at hc0
              have cell : ∀ i j, i < len → j < row.sz → ∃ c0 a0 v, row.rows[off + i]? = some c0 ∧ c0[j]? = some a0 ∧ w.cell? ⟨B.b, o + (i * row.sz + j), none⟩ = some v ∧ Rep P w D ι a0 v := fun i j hi hj => by
                have hi' : off + i < row.rows.length := by omega
                have e1 := List.getElem?_eq_getElem hi'
                have hj' : j < row.rows[off + i].length := by rw [R.len _ (List.getElem_mem hi')]; exact hj
                obtain ⟨v, hv, hrv⟩ := R.at_ _ _ _ _ e1 (List.getElem?_eq_getElem hj')
                refine ⟨_, _, v, e1, List.getElem?_eq_getElem hj', ?_, hrv⟩
                rw [ho, R.sz, ← hv]
                congr 2
                rw [Nat.add_mul]; omega
              refine both (.sl rows B.b o len cap row.sz (fun i j => (w.cell? ⟨B.b, o + (i * row.sz + j), none⟩).getD undef) hlen h1 h4 hDB (fun cs hcs => ?_) (fun cs hcs b hb => ?_) (fun i j hi hj => ?_) (fun i j cs b hi hj => ?_)) rfl
              · obtain ⟨i, hi, rfl⟩ := List.getElem_of_mem hcs
                obtain ⟨c0, hc0, hf⟩ := src i _ (List.getElem?_eq_getElem hi)
                rw [(fzRow_get hf).1]; exact R.len c0 (List.mem_of_getElem? hc0)
              · obtain ⟨i, hi, rfl⟩ := List.getElem_of_mem hcs
                obtain ⟨c0, hc0, hf⟩ := src i _ (List.getElem?_eq_getElem hi)
                obtain ⟨j, hj, rfl⟩ := List.getElem_of_mem hb
                obtain ⟨a0, ha0, hfa⟩ := (fzRow_get hf).2 j _ (List.getElem?_eq_getElem hj)
                obtain ⟨v, _, hrv⟩ := R.at_ _ _ _ _ hc0 ha0
                exact ((ih _ _ _ hrv hfa).2 (R.flat c0 (List.mem_of_getElem? hc0) a0 (List.mem_of_getElem? ha0))).2
              · obtain ⟨c0, a0, v, _, _, hv, _⟩ := cell i j hi hj
                simp only [hv, Option.getD_some]
              · obtain ⟨c0, hc0, hf⟩ := src i cs hi
                obtain ⟨a0, ha0, hfa⟩ := (fzRow_get hf).2 j b hj
                have hil : i < len := by rw [← hlen]; exact (List.getElem?_eq_some_iff.1 hi).1
                have hjl : j < row.sz := by rw [← R.len c0 (List.mem_of_getElem? hc0)]; exact (List.getElem?_eq_some_iff.1 ha0).1
                obtain ⟨c1, a1, v, e1, e2, hv, hrv⟩ := cell i j hil hjl
                rw [hc0] at e1; injection e1 with e1; subst e1
                rw [ha0] at e2; injection e2 with e2; subst e2
                simp only [hv, Option.getD_some]
                exact ((ih _ _ _ hrv hfa).2 (R.flat c0 (List.mem_of_getElem? hc0) a0 (List.mem_of_getElem? ha0))).1
          · simp at h
        · simp at h
      · simp at h
    | ptr id i off =>
      rw [fz] at h
      split at h
      · rename_i row hg
        split at h
        · rename_i hw
          split at h
          · rename_i c0 hc0
            simp only [Option.map_eq_some_iff] at h
            obtain ⟨cs, hcs, rfl⟩ := h
            obtain ⟨B, hB, R, hDB⟩ := blk id row hg hw
            obtain ⟨B', rfl, hB'⟩ := rep_ptr hr
            rw [hB] at hB'; injection hB' with hB'; subst hB'
            obtain ⟨l1, l2⟩ := fzRow_get hcs
            have at_ : ∀ j b, cs[j]? = some b → ∃ a0 v, w.cell? ⟨B.b, i * B.sz + off + j, none⟩ = some v ∧ Rep P w D ι a0 v ∧ a0.cell = true ∧ fz g n a0 = some b := fun j b hj => by
              obtain ⟨a0, ha0, hf⟩ := l2 j b hj
              rw [List.getElem?_drop] at ha0
              obtain ⟨v, hv, hrv⟩ := R.at_ _ _ _ _ hc0 ha0
              refine ⟨a0, v, ?_, hrv, R.flat c0 (List.mem_of_getElem? hc0) a0 (List.mem_of_getElem? ha0), hf⟩
              rw [R.sz, Nat.add_assoc]; exact hv
            refine both (.iptr cs B.b _ (fun j => (w.cell? ⟨B.b, i * B.sz + off + j, none⟩).getD undef) hDB (fun b hb => ?_) (fun j hj => ?_) (fun j b hj => ?_)) rfl
            · obtain ⟨j, hj, rfl⟩ := List.getElem_of_mem hb
              obtain ⟨a0, v, _, hrv, hc, hf⟩ := at_ j _ (List.getElem?_eq_getElem hj)
              exact ((ih _ _ _ hrv hf).2 hc).2
            · obtain ⟨a0, v, hv, _⟩ := at_ j _ (List.getElem?_eq_getElem hj)
              simp only [hv, Option.getD_some]
            · obtain ⟨a0, v, hv, hrv, hc, hf⟩ := at_ j b hj
              simp only [hv, Option.getD_some]
              exact ((ih _ _ _ hrv hf).2 hc).1
          · simp at h
        · simp at h
      · simp at h
    | agg cs =>
      rw [fz] at h
      simp only [Option.map_eq_some_iff] at h
      obtain ⟨r', hr', rfl⟩ := h
      obtain ⟨vs, f, rfl, h1, h2, h3, h4⟩ := rep_agg hr
      obtain ⟨l1, l2⟩ := fzRow_get hr'
      have hI : Imm P w D2 (.agg r') (.agg vs) := .agg r' vs f (by rw [h1, l1]) (fun b hb => by
        obtain ⟨j, hj, rfl⟩ := List.getElem_of_mem hb
        obtain ⟨a0, ha0, hf⟩ := l2 j _ (List.getElem?_eq_getElem hj)
        exact ((ih _ _ _ (h4 j a0 ha0) hf).2 (h2 a0 (List.mem_of_getElem? ha0))).2) (fun j hj => h3 j (by rw [← l1]; exact hj)) (fun j b hj => by
        obtain ⟨a0, ha0, hf⟩ := l2 j b hj
        exact ((ih _ _ _ (h4 j a0 ha0) hf).2 (h2 a0 (List.mem_of_getElem? ha0))).1)
      exact ⟨.imm _ _ hI, fun hc => by simp [AV.cell] at hc⟩
    | tup cs =>
      rw [fz] at h
      simp only [Option.map_eq_some_iff] at h
      obtain ⟨r', hr', rfl⟩ := h
      obtain ⟨vs, f, rfl, h1, h3, h4⟩ := rep_tup hr
      obtain ⟨l1, l2⟩ := fzRow_get hr'
      exact ⟨.tup r' vs f (by rw [h1, l1]) (fun j hj => h3 j (by rw [← l1]; exact hj)) (fun j b hj => by
        obtain ⟨a0, ha0, hf⟩ := l2 j b hj
        exact (ih _ _ _ (h4 j a0 ha0) hf).1), fun hc => by simp [AV.cell] at hc⟩
    | fn f caps =>
      rw [fz] at h
      split at h
      · rename_i hall
        simp only [Option.map_eq_some_iff] at h
        obtain ⟨r', hr', rfl⟩ := h
        obtain ⟨vs, q, rfl, h0, h1, h3, h4⟩ := rep_fn hr
        obtain ⟨l1, l2⟩ := fzRow_get hr'
        exact both (.fn f r' vs q h0 (by rw [h1, l1]) (fun j hj => h3 j (by rw [← l1]; exact hj)) (fun j b hj => by
          obtain ⟨a0, ha0, hf⟩ := l2 j b hj
          exact ((ih _ _ _ (h4 j a0 ha0) hf).2 (List.all_eq_true.1 hall a0 (List.mem_of_getElem? ha0))).1)) rfl
      · simp at h
    | int k m => rw [fz] at h <;> (try simp at h) <;> (try subst h) <;> (try (rw [rep_int hr]; exact ⟨.imm _ _ (.int _ _), fun _ => ⟨.int _ _, rfl⟩⟩)) <;> (try (intros; simp_all))
    | bool b => rw [fz] at h <;> (try simp at h) <;> (try subst h) <;> (try (rw [rep_bool hr]; exact ⟨.imm _ _ (.bool _), fun _ => ⟨.bool _, rfl⟩⟩)) <;> (try (intros; simp_all))
    | str b => rw [fz] at h <;> (try simp at h) <;> (try subst h) <;> (try (rw [rep_str hr]; exact ⟨.imm _ _ (.str _), fun _ => ⟨.str _, rfl⟩⟩)) <;> (try (intros; simp_all))
    | nils => rw [fz] at h <;> (try simp at h) <;> (try subst h) <;> (try (rw [rep_nils hr]; exact ⟨.imm _ _ .nils, fun _ => ⟨.nils, rfl⟩⟩)) <;> (try (intros; simp_all))
    | nilf => rw [fz] at h <;> (try simp at h) <;> (try subst h) <;> (try (rw [rep_nilf hr]; exact ⟨.imm _ _ .nilf, fun _ => ⟨.nilf, rfl⟩⟩)) <;> (try (intros; simp_all))
    | nilp => rw [fz] at h <;> (try simp at h) <;> (try subst h) <;> (try (cases hr with | imm _ _ hr => exact both (hr.frame (fun _ _ => rfl) hD) rfl)) <;> (try (intros; simp_all))
    | sl rows => rw [fz] at h <;> (try simp at h) <;> (try subst h) <;> (try (cases hr with | imm _ _ hr => exact both (hr.frame (fun _ _ => rfl) hD) rfl)) <;> (try (intros; simp_all))
    | iptr cs => rw [fz] at h <;> (try simp at h) <;> (try subst h) <;> (try (cases hr with | imm _ _ hr => exact both (hr.frame (fun _ _ => rfl) hD) rfl)) <;> (try (intros; simp_all))

theorem fzSRow_get : ∀ {n : Nat} {l r : List AV}, fzSRow g n l = some r → r.length = l.length ∧ ∀ (j : Nat) (b : AV), r[j]? = some b → ∃ a, l[j]? = some a ∧ fzS g n a = some b
  | n, [], r, h => by
    rw [fzSRow] at h; simp at h; subst h; simp
  | n, a :: l, r, h => by
    rw [fzSRow] at h
    split at h
    · rename_i b hb
      simp only [Option.map_eq_some_iff] at h
      obtain ⟨r', hr, rfl⟩ := h
      obtain ⟨h1, h2⟩ := fzSRow_get hr
      refine ⟨by simp [h1], fun j c hj => ?_⟩
      cases j with
      | zero => simp at hj; subst hj; exact ⟨a, rfl, hb⟩
      | succ j => simp at hj ⊢; exact h2 j c hj
    · simp at h
theorem fzSRows_get : ∀ {n : Nat} {l r : List (List AV)}, fzSRows g n l = some r → r.length = l.length ∧ ∀ (j : Nat) (b : List AV), r[j]? = some b → ∃ a, l[j]? = some a ∧ fzSRow g n a = some b
  | n, [], r, h => by
    rw [fzSRows] at h; simp at h; subst h; simp
  | n, a :: l, r, h => by
    rw [fzSRows] at h
    split at h
    · rename_i b hb
      simp only [Option.map_eq_some_iff] at h
      obtain ⟨r', hr, rfl⟩ := h
      obtain ⟨h1, h2⟩ := fzSRows_get hr
      refine ⟨by simp [h1], fun j c hj => ?_⟩
      cases j with
      | zero => simp at hj; subst hj; exact ⟨a, rfl, hb⟩
      | succ j => simp at hj ⊢; exact h2 j c hj
    · simp at h

theorem fzS_sound (blk : ∀ id row, g id = some row → row.w = true → ∃ B, ι id = some B ∧ RowIn P w D ι B row ∧ D2 B.b) : ∀ (n : Nat) (a : AV) (u : Value) (r : AV), Rep P w D ι a u → fzS g n a = some r → Rep P w D2 ι2 r u ∧ (a.cell = true → Imm P w D2 r u ∧ r.cell = true) := by
  intro n
  induction n with
  | zero => intro a u r _ h; rw [fzS] at h; simp at h
  | succ n ih =>
    intro a u r hr h
    have both : ∀ {r : AV}, Imm P w D2 r u → r.cell = true → Rep P w D2 ι2 r u ∧ (a.cell = true → Imm P w D2 r u ∧ r.cell = true) := fun h1 h2 => ⟨.imm _ _ h1, fun _ => ⟨h1, h2⟩⟩
    cases a with
    | own id off len =>
      rw [fzS] at h
      split at h
      · rename_i row hg
        split at h
        · rename_i hw
          split at h
          · rename_i hle
            simp only [Option.map_eq_some_iff] at h
            obtain ⟨rows, hrows, rfl⟩ := h
            obtain ⟨B, hB, R, hDB⟩ := blk id row hg hw
            obtain ⟨o, cap, B', rfl, hB', h1, h2, h3, h4⟩ := rep_own hr
            rw [hB] at hB'; injection hB' with hB'; subst hB'
            obtain ⟨l1, l2⟩ := fzSRows_get hrows
            have hlen : rows.length = len := by rw [l1]; simp; omega
            by_cases h0 : rows = []
            · subst h0
              simp at hlen; subst hlen
              exact both (.sl0 _ _ h4) rfl
            · have hlp : 0 < len := by rw [← hlen]; exact List.length_pos_iff.2 h0
              have ho : o = off * B.sz := by rcases h2 with h2 | h2 <;> omega
              have src : ∀ i cs, rows[i]? = some cs → ∃ c0, row.rows[off + i]? = some c0 ∧ fzSRow g n c0 = some cs := fun i cs hi => by
                obtain ⟨c0, hc0, hf⟩ := l2 i cs hi
                rw [List.getElem?_take] at hc0
                split at hc0
                · rw [List.getElem?_drop] at hc0; exact ⟨c0, hc0, hf⟩
                · simp at hc0
              have cell : ∀ i j, i < len → j < row.sz → ∃ c0 a0 v, row.rows[off + i]? = some c0 ∧ c0[j]? = some a0 ∧ w.cell? ⟨B.b, o + (i * row.sz + j), none⟩ = some v ∧ Rep P w D ι a0 v := fun i j hi hj => by
                have hi' : off + i < row.rows.length := by omega
                have e1 := List.getElem?_eq_getElem hi'
                have hj' : j < row.rows[off + i].length := by rw [R.len _ (List.getElem_mem hi')]; exact hj
                obtain ⟨v, hv, hrv⟩ := R.at_ _ _ _ _ e1 (List.getElem?_eq_getElem hj')
                refine ⟨_, _, v, e1, List.getElem?_eq_getElem hj', ?_, hrv⟩
                rw [ho, R.sz, ← hv]
                congr 2
                rw [Nat.add_mul]; omega
              refine both (.sl rows B.b o len cap row.sz (fun i j => (w.cell? ⟨B.b, o + (i * row.sz + j), none⟩).getD undef) hlen h1 h4 hDB (fun cs hcs => ?_) (fun cs hcs b hb => ?_) (fun i j hi hj => ?_) (fun i j cs b hi hj => ?_)) rfl
              · obtain ⟨i, hi, rfl⟩ := List.getElem_of_mem hcs
                obtain ⟨c0, hc0, hf⟩ := src i _ (List.getElem?_eq_getElem hi)
                rw [(fzSRow_get hf).1]; exact R.len c0 (List.mem_of_getElem? hc0)
              · obtain ⟨i, hi, rfl⟩ := List.getElem_of_mem hcs
                obtain ⟨c0, hc0, hf⟩ := src i _ (List.getElem?_eq_getElem hi)
                obtain ⟨j, hj, rfl⟩ := List.getElem_of_mem hb
                obtain ⟨a0, ha0, hfa⟩ := (fzSRow_get hf).2 j _ (List.getElem?_eq_getElem hj)
                obtain ⟨v, _, hrv⟩ := R.at_ _ _ _ _ hc0 ha0
                exact ((ih _ _ _ hrv hfa).2 (R.flat c0 (List.mem_of_getElem? hc0) a0 (List.mem_of_getElem? ha0))).2
              · obtain ⟨c0, a0, v, _, _, hv, _⟩ := cell i j hi hj
                simp only [hv, Option.getD_some]
              · obtain ⟨c0, hc0, hf⟩ := src i cs hi
                obtain ⟨a0, ha0, hfa⟩ := (fzSRow_get hf).2 j b hj
                have hil : i < len := by rw [← hlen]; exact (List.getElem?_eq_some_iff.1 hi).1
                have hjl : j < row.sz := by rw [← R.len c0 (List.mem_of_getElem? hc0)]; exact (List.getElem?_eq_some_iff.1 ha0).1
                obtain ⟨c1, a1, v, e1, e2, hv, hrv⟩ := cell i j hil hjl
                rw [hc0] at e1; injection e1 with e1; subst e1
                rw [ha0] at e2; injection e2 with e2; subst e2
                simp only [hv, Option.getD_some]
                exact ((ih _ _ _ hrv hfa).2 (R.flat c0 (List.mem_of_getElem? hc0) a0 (List.mem_of_getElem? ha0))).1
          · simp at h
        · simp at h
      · simp at h
    | ptr id i off =>
      rw [fzS] at h
      split at h
      · rename_i row hg
        split at h
        · rename_i hw
          split at h
          · rename_i c0 hc0
            simp only [Option.map_eq_some_iff] at h
            obtain ⟨cs, hcs, rfl⟩ := h
            obtain ⟨B, hB, R, hDB⟩ := blk id row hg hw
            obtain ⟨B', rfl, hB'⟩ := rep_ptr hr
            rw [hB] at hB'; injection hB' with hB'; subst hB'
            obtain ⟨l1, l2⟩ := fzSRow_get hcs
            have at_ : ∀ j b, cs[j]? = some b → ∃ a0 v, w.cell? ⟨B.b, i * B.sz + off + j, none⟩ = some v ∧ Rep P w D ι a0 v ∧ a0.cell = true ∧ fzS g n a0 = some b := fun j b hj => by
              obtain ⟨a0, ha0, hf⟩ := l2 j b hj
              rw [List.getElem?_drop] at ha0
              obtain ⟨v, hv, hrv⟩ := R.at_ _ _ _ _ hc0 ha0
              refine ⟨a0, v, ?_, hrv, R.flat c0 (List.mem_of_getElem? hc0) a0 (List.mem_of_getElem? ha0), hf⟩
              rw [R.sz, Nat.add_assoc]; exact hv
            refine both (.iptr cs B.b _ (fun j => (w.cell? ⟨B.b, i * B.sz + off + j, none⟩).getD undef) hDB (fun b hb => ?_) (fun j hj => ?_) (fun j b hj => ?_)) rfl
            · obtain ⟨j, hj, rfl⟩ := List.getElem_of_mem hb
              obtain ⟨a0, v, _, hrv, hc, hf⟩ := at_ j _ (List.getElem?_eq_getElem hj)
              exact ((ih _ _ _ hrv hf).2 hc).2
            · obtain ⟨a0, v, hv, _⟩ := at_ j _ (List.getElem?_eq_getElem hj)
              simp only [hv, Option.getD_some]
            · obtain ⟨a0, v, hv, hrv, hc, hf⟩ := at_ j b hj
              simp only [hv, Option.getD_some]
              exact ((ih _ _ _ hrv hf).2 hc).1
          · simp at h
        · simp at h
      · simp at h
    | agg cs =>
      rw [fzS] at h
      simp only [Option.map_eq_some_iff] at h
      obtain ⟨r', hr', rfl⟩ := h
      obtain ⟨vs, f, rfl, h1, h2, h3, h4⟩ := rep_agg hr
      obtain ⟨l1, l2⟩ := fzSRow_get hr'
      have hI : Imm P w D2 (.agg r') (.agg vs) := .agg r' vs f (by rw [h1, l1]) (fun b hb => by
        obtain ⟨j, hj, rfl⟩ := List.getElem_of_mem hb
        obtain ⟨a0, ha0, hf⟩ := l2 j _ (List.getElem?_eq_getElem hj)
        exact ((ih _ _ _ (h4 j a0 ha0) hf).2 (h2 a0 (List.mem_of_getElem? ha0))).2) (fun j hj => h3 j (by rw [← l1]; exact hj)) (fun j b hj => by
        obtain ⟨a0, ha0, hf⟩ := l2 j b hj
        exact ((ih _ _ _ (h4 j a0 ha0) hf).2 (h2 a0 (List.mem_of_getElem? ha0))).1)
      exact ⟨.imm _ _ hI, fun hc => by simp [AV.cell] at hc⟩
    | tup cs =>
      rw [fzS] at h
      simp only [Option.map_eq_some_iff] at h
      obtain ⟨r', hr', rfl⟩ := h
      obtain ⟨vs, f, rfl, h1, h3, h4⟩ := rep_tup hr
      obtain ⟨l1, l2⟩ := fzSRow_get hr'
      exact ⟨.tup r' vs f (by rw [h1, l1]) (fun j hj => h3 j (by rw [← l1]; exact hj)) (fun j b hj => by
        obtain ⟨a0, ha0, hf⟩ := l2 j b hj
        exact (ih _ _ _ (h4 j a0 ha0) hf).1), fun hc => by simp [AV.cell] at hc⟩
    | fn f caps => rw [fzS] at h <;> (try simp at h) <;> (try (intros; simp_all))
    | int k m => rw [fzS] at h <;> (try simp at h) <;> (try subst h) <;> (try (rw [rep_int hr]; exact ⟨.imm _ _ (.int _ _), fun _ => ⟨.int _ _, rfl⟩⟩)) <;> (try (intros; simp_all))
    | bool b => rw [fzS] at h <;> (try simp at h) <;> (try subst h) <;> (try (rw [rep_bool hr]; exact ⟨.imm _ _ (.bool _), fun _ => ⟨.bool _, rfl⟩⟩)) <;> (try (intros; simp_all))
    | str b => rw [fzS] at h <;> (try simp at h) <;> (try subst h) <;> (try (rw [rep_str hr]; exact ⟨.imm _ _ (.str _), fun _ => ⟨.str _, rfl⟩⟩)) <;> (try (intros; simp_all))
    | nils => rw [fzS] at h <;> (try simp at h) <;> (try subst h) <;> (try (rw [rep_nils hr]; exact ⟨.imm _ _ .nils, fun _ => ⟨.nils, rfl⟩⟩)) <;> (try (intros; simp_all))
    | nilf => rw [fzS] at h <;> (try simp at h) <;> (try subst h) <;> (try (rw [rep_nilf hr]; exact ⟨.imm _ _ .nilf, fun _ => ⟨.nilf, rfl⟩⟩)) <;> (try (intros; simp_all))
    | nilp => rw [fzS] at h <;> (try simp at h) <;> (try subst h) <;> (try (cases hr with | imm _ _ hr => cases hr; exact both .nilp rfl)) <;> (try (intros; simp_all))
    | sl rows => rw [fzS] at h <;> (try simp at h) <;> (try (intros; simp_all))
    | iptr cs => rw [fzS] at h <;> (try simp at h) <;> (try (intros; simp_all))

end
end Go.Proofs.YtpbniieiinhliaaGreat.V

namespace Go.Proofs.YtpbniieiinhliaaGreat.V
open Go.RowKit

variable {P : Program} {w w' : World} {D D' D2 : Nat → Prop} {ι ι' ι2 : Names}

/-- What a call of the small language says of the machine's call. -/
def Sound (P : Program) : CallP := fun f args σ K => ∀ (hs : Nat) (D : Nat → Prop) (ι : Names) (w : World) (vs : Array Value), Sim P hs D ι σ.get w → Used ι σ.next (fun _ => False) → RepL P w D ι args vs →
  Calls P f vs w fun e w' => ∃ r g' n' D' ι' u, e = .returned u ∧ K r ⟨g', n'⟩ ∧ Step hs D ι w D' ι' w' ∧ Sim P hs D' ι' g' w' ∧ Used ι' n' (fun _ => False) ∧ σ.next ≤ n' ∧ Rep P w' D' ι' r u

section
variable {g : Rows} {hs : Nat} {env : Env} {a : Act} {o : Oper} {id : Id} {v : AV}

theorem Sim.ro (S : Sim P hs D ι g w) : Sim P w.heap.size D ι (ro g) w := by
  refine ⟨Nat.le_refl _, S.dead, fun id r h => ?_, fun id id' r r' B B' h h' hw => ?_⟩
  · unfold V.ro at h
    simp only [Option.map_eq_some_iff] at h
    obtain ⟨r0, h0, rfl⟩ := h
    obtain ⟨B, hB, R, _, _⟩ := S.row id r0 h0
    exact ⟨B, hB, ⟨R.sz, R.blk, R.fits, R.len, R.flat, R.at_⟩, fun h => by simp at h, fun h => by simp at h⟩
  · unfold V.ro at h
    simp only [Option.map_eq_some_iff] at h
    obtain ⟨r0, h0, rfl⟩ := h
    simp at hw

theorem PC_sound {g0 : Rows} {f : Nat} {args : List AV} {n : Nat} {K : AV → Prop} {vs : Array Value} (h : PC (Sound P) f args ⟨g0, n⟩ K) (hsub : ∀ id r, g0 id = some r → g id = some r) (S : Sim P hs D ι g w) (U : Used ι n (fun _ => False)) (A : RepL P w D ι args vs) :
    Calls P f vs w fun e w' => ∃ r D' u, e = .returned u ∧ K r ∧ Step hs D ι w D' ι w' ∧ Sim P hs D' ι g w' ∧ Rep P w' D' ι r u := by
  refine (h w.heap.size D ι w vs (S.sub hsub).ro U A).mono ?_
  rintro e w' ⟨r0, g', n', D1, ι1, u, rfl, ⟨r, hr, hK⟩, T, S1, _, _, hR⟩
  have hb : ∀ b, b < w.heap.size → w'.heap[b]? = w.heap[b]? := T.below.block
  have hz := T.below.size
  have q := fz_sound (D2 := fun b => D b ∨ (w.heap.size ≤ b ∧ b < w'.heap.size)) (ι2 := ι) (fun b hd => by
    rcases T.new b hd with h | h
    · exact .inl h
    · exact .inr ⟨h, S1.dead b hd⟩) (fun id row hg hw => by
    obtain ⟨B, hB, R, h1, _⟩ := S1.row id row hg
    obtain ⟨c, Ty, h3, _⟩ := R.blk
    exact ⟨B, hB, R, .inr ⟨h1 hw, (Array.getElem?_eq_some_iff.1 h3).1⟩⟩) 6 r0 u r hR hr
  refine ⟨r, _, u, rfl, hK, ?_, ?_, q.1⟩
  · exact Step.stay S hb hz T.below.os T.below.tape T.below.output (fun _ h => .inl h) (fun b h => by rcases h with h | h; exact .inl h; exact .inr h.1) (fun _ _ h => h)
  · exact S.stay hb hz (fun _ h => .inl h) (fun b h => by rcases h with h | h; exact Nat.lt_of_lt_of_le (S.dead b h) hz; exact h.2) (fun b h => by rcases h with h | h; exact .inl h; exact .inr h.1) (fun _ _ h => h)

theorem PCv_sound {g0 : Rows} {f : Nat} {args : List AV} {n : Nat} {K : AV → Prop} {vs : Array Value} (h : PCv (Sound P) f args ⟨g0, n⟩ K) (hsub : ∀ id r, g0 id = some r → g id = some r) (S : Sim P hs D ι g w) (U : Used ι n (fun _ => False)) (A : RepL P w D ι args vs) :
    Calls P f vs w fun e w' => ∃ r D' u, e = .returned u ∧ K r ∧ Step hs D ι w D' ι w' ∧ Sim P hs D' ι g w' ∧ Rep P w' D' ι r u := by
  obtain ⟨args', ha, h⟩ := h
  let D1 : Nat → Prop := fun b => D b ∨ ∃ id r B, g id = some r ∧ ι id = some B ∧ b = B.b
  have lt : ∀ id r B, g id = some r → ι id = some B → B.b < w.heap.size := fun id r B h1 h2 => by
    obtain ⟨B', hB', R, _⟩ := S.row id r h1
    rw [h2] at hB'; injection hB' with hB'; subst hB'
    obtain ⟨c, Ty, h3, _⟩ := R.blk
    exact (Array.getElem?_eq_some_iff.1 h3).1
  have S0 : Sim P w.heap.size D1 ι (fun _ => none) w := ⟨Nat.le_refl _, fun b hb => by
    rcases hb with hb | ⟨id, r, B, h1, h2, rfl⟩
    · exact S.dead b hb
    · exact lt id r B h1 h2, fun id r h => (by cases h), fun id id' r r' B B' h => (by cases h)⟩
  obtain ⟨l1, l2⟩ := fzRow_get ha
  have A' : RepL P w D1 ι args' vs := ⟨by rw [A.1, l1], fun j a hj => by
    obtain ⟨a0, ha0, hf⟩ := l2 j a hj
    obtain ⟨u, hu, hr⟩ := A.2 j a0 ha0
    refine ⟨u, hu, (fz_sound (D2 := D1) (ι2 := ι) (fun b h => .inl h) (fun id row hg hw => ?_) 6 a0 u a hr hf).1⟩
    unfold rw_ at hg
    simp only [Option.map_eq_some_iff] at hg
    obtain ⟨r, hr', rfl⟩ := hg
    obtain ⟨B, hB, R, _, _⟩ := S.row id r (hsub id r hr')
    exact ⟨B, hB, ⟨R.sz, R.blk, R.fits, R.len, R.flat, R.at_⟩, .inr ⟨id, r, B, hsub id r hr', hB, rfl⟩⟩⟩
  refine (h w.heap.size D1 ι w vs S0 U A').mono ?_
  rintro e w' ⟨r0, g', n', D2, ι1, u, rfl, ⟨r, hr, hK⟩, T, S1, _, _, hR⟩
  have hb : ∀ b, b < w.heap.size → w'.heap[b]? = w.heap[b]? := T.below.block
  have hz := T.below.size
  have q := fzS_sound (D2 := fun b => D b ∨ (w.heap.size ≤ b ∧ b < w'.heap.size)) (ι2 := ι) (fun id row hg hw => by
    obtain ⟨B, hB, R, h1, _⟩ := S1.row id row hg
    obtain ⟨c, Ty, h3, _⟩ := R.blk
    exact ⟨B, hB, R, .inr ⟨h1 hw, (Array.getElem?_eq_some_iff.1 h3).1⟩⟩) 6 r0 u r hR hr
  refine ⟨r, _, u, rfl, hK, ?_, ?_, q.1⟩
  · exact Step.stay S hb hz T.below.os T.below.tape T.below.output (fun _ h => .inl h) (fun b h => by rcases h with h | h; exact .inl h; exact .inr h.1) (fun _ _ h => h)
  · exact S.stay hb hz (fun _ h => .inl h) (fun b h => by rcases h with h | h; exact Nat.lt_of_lt_of_le (S.dead b h) hz; exact h.2) (fun b h => by rcases h with h | h; exact .inl h; exact .inr h.1) (fun _ _ h => h)

theorem PCx_sound {g0 : Rows} {f : Nat} {args : List AV} {n : Nat} {K : AV → Prop} {vs : Array Value} (h : PCx (Sound P) f args ⟨g0, n⟩ K) (hsub : ∀ id r, g0 id = some r → g id = some r) (S : Sim P hs D ι g w) (U : Used ι n (fun _ => False)) (A : RepL P w D ι args vs) :
    Calls P f vs w fun e w' => ∃ r D' u, e = .returned u ∧ K r ∧ Step hs D ι w D' ι w' ∧ Sim P hs D' ι g w' ∧ Rep P w' D' ι r u := by
  rcases h with h | h
  · exact PC_sound h hsub S U A
  · exact PCv_sound h hsub S U A

theorem rep_plain {D1 D2 : Nat → Prop} {ι1 ι2 : Names} {w1 : World} {a : AV} {v : Value} (hp : a.plain = true) (h : Rep P w D1 ι1 a v) : Rep P w1 D2 ι2 a v := by
  cases h with
  | imm a v h => cases h <;> first | (simp [AV.plain] at hp; done) | exact .imm _ _ (by constructor)
  | _ => simp [AV.plain] at hp

theorem Sim.add {r : Row} {B : Blk} (S : Sim P hs D ι g w) (S' : Sim P hs D ι g w') (hf : ι id = none) (hlo : w.heap.size ≤ B.b) (R : RowIn P w' D (updN ι id B) B r) : Sim P hs D (updN ι id B) (setR g id r) w' := by
  have lt : ∀ id' r' B', g id' = some r' → ι id' = some B' → B'.b < w.heap.size := fun id' r' B' h1 h2 => by
    obtain ⟨B2, hB2, R2, _⟩ := S.row id' r' h1
    rw [h2] at hB2; injection hB2 with hB2; subst hB2
    obtain ⟨c, Ty, h3, _⟩ := R2.blk
    exact (Array.getElem?_eq_some_iff.1 h3).1
  have ne : ∀ id' r', g id' = some r' → id' ≠ id := fun id' r' h he => by
    subst he
    obtain ⟨B2, hB2, _⟩ := S.row _ r' h
    rw [hf] at hB2; cases hB2
  refine ⟨S'.lo, S'.dead, fun id' r' h => ?_, fun id1 id2 r1 r2 B1 B2 h1 h2 hw hB1 hB2 hb => ?_⟩
  · unfold setR at h
    split at h
    · rename_i he
      subst he
      injection h with h; subst h
      exact ⟨B, updN_same _ _ _, R, fun _ => Nat.le_trans S.lo hlo, fun _ hd => Nat.lt_irrefl _ (Nat.lt_of_lt_of_le (S.dead _ hd) hlo)⟩
    · obtain ⟨B', hB', R', k1, k2⟩ := S'.row id' r' h
      exact ⟨B', by rw [updN_ne (ne _ _ h)]; exact hB', R'.frame rfl (fun a v hr => hr.frame (fun _ _ => rfl) (fun _ h => h) (updN_old hf)), k1, k2⟩
  · unfold setR at h1 h2
    split at h1
    · rename_i e1
      split at h2
      · rename_i e2; rw [e1, e2]
      · exfalso
        subst e1
        rw [updN_same] at hB1; injection hB1 with hB1; subst hB1
        rw [updN_ne (ne _ _ h2)] at hB2
        have := lt _ _ _ h2 hB2
        omega
    · rw [updN_ne (ne _ _ h1)] at hB1
      split at h2
      · rename_i e2
        exfalso
        subst e2
        rw [updN_same] at hB2; injection hB2 with hB2; subst hB2
        have := lt _ _ _ h1 hB1
        omega
      · rw [updN_ne (ne _ _ h2)] at hB2
        exact S'.inj id1 id2 r1 r2 B1 B2 h1 h2 hw hB1 hB2 hb

theorem CM_sound {g0 : Rows} {f : Nat} {args : List AV} {n sz : Nat} {rows : List (List AV)} {vs : Array Value} (h : CM (Sound P) f args ⟨g0, n⟩ sz rows) (hsub : ∀ id r, g0 id = some r → g id = some r) (S : Sim P hs D ι g w) (U : Used ι n (fun _ => False)) (A : RepL P w D ι args vs) (hf : ι id = none) :
    Calls P f vs w fun e w' => ∃ u B, e = .returned u ∧ Step hs D ι w D (updN ι id B) w' ∧ Sim P hs D (updN ι id B) (setR g id ⟨true, sz, rows⟩) w' ∧ Rep P w' D (updN ι id B) (.own id 0 rows.length) u := by
  obtain ⟨hpl, args', ha, h⟩ := h
  let D1 : Nat → Prop := fun b => D b ∨ ∃ id r B, g id = some r ∧ ι id = some B ∧ b = B.b
  have lt : ∀ id r B, g id = some r → ι id = some B → B.b < w.heap.size := fun id r B h1 h2 => by
    obtain ⟨B', hB', R, _⟩ := S.row id r h1
    rw [h2] at hB'; injection hB' with hB'; subst hB'
    obtain ⟨c, Ty, h3, _⟩ := R.blk
    exact (Array.getElem?_eq_some_iff.1 h3).1
  have S0 : Sim P w.heap.size D1 ι (fun _ => none) w := ⟨Nat.le_refl _, fun b hb => by
    rcases hb with hb | ⟨id, r, B, h1, h2, rfl⟩
    · exact S.dead b hb
    · exact lt id r B h1 h2, fun id r h => (by cases h), fun id id' r r' B B' h => (by cases h)⟩
  obtain ⟨l1, l2⟩ := fzRow_get ha
  have A' : RepL P w D1 ι args' vs := ⟨by rw [A.1, l1], fun j a hj => by
    obtain ⟨a0, ha0, hz⟩ := l2 j a hj
    obtain ⟨u, hu, hr⟩ := A.2 j a0 ha0
    refine ⟨u, hu, (fz_sound (D2 := D1) (ι2 := ι) (fun b h => .inl h) (fun id row hg hw => ?_) 6 a0 u a hr hz).1⟩
    unfold rw_ at hg
    simp only [Option.map_eq_some_iff] at hg
    obtain ⟨r, hr', rfl⟩ := hg
    obtain ⟨B, hB, R, _, _⟩ := S.row id r (hsub id r hr')
    exact ⟨B, hB, ⟨R.sz, R.blk, R.fits, R.len, R.flat, R.at_⟩, .inr ⟨id, r, B, hsub id r hr', hB, rfl⟩⟩⟩
  refine (h w.heap.size D1 ι w vs S0 U A').mono ?_
  rintro e w' ⟨r0, g', n', D2, ι1, u, rfl, ⟨i0, hr, hg⟩, T, S1, _, _, hR⟩
  subst hr
  have hb : ∀ b, b < w.heap.size → w'.heap[b]? = w.heap[b]? := T.below.block
  have hz := T.below.size
  obtain ⟨B, hB, R, k1, _⟩ := S1.row i0 _ hg
  have hlo : w.heap.size ≤ B.b := k1 rfl
  obtain ⟨o, cap, B', rfl, hB', q2, q3, q4, q5⟩ := rep_own hR
  rw [hB] at hB'; injection hB' with hB'; subst hB'
  have S' : Sim P hs D ι g w' := S.stay hb hz (fun _ h => h) (fun b h => Nat.lt_of_lt_of_le (S.dead b h) hz) (fun b h => .inl h) (fun _ _ h => h)
  have R' : RowIn P w' D (updN ι id B) B ⟨true, sz, rows⟩ := ⟨R.sz, R.blk, R.fits, R.len, R.flat, fun i j cs a hi hj => by
    obtain ⟨v, h1, h2⟩ := R.at_ i j cs a hi hj
    exact ⟨v, h1, rep_plain (hpl cs (List.mem_of_getElem? hi) a (List.mem_of_getElem? hj)) h2⟩⟩
  exact ⟨_, B, rfl, Step.stay S hb hz T.below.os T.below.tape T.below.output (fun _ h => h) (fun _ h => .inl h) (updN_old hf), S.add S' hf hlo R', .own id 0 _ _ _ B (updN_same _ _ _) q2 q3 q4 q5⟩

theorem run_callFunc {f : Nat} {args : Array Value} (hc : callable P f = true) : (callFunc f args).run P w = .ok (.enter f args) w := by
  unfold callable at hc
  split at hc
  · rename_i fn hf
    simp only [Bool.and_eq_true, Bool.not_eq_true'] at hc
    have hb : fn.body.isNone = false := by cases hq : fn.body <;> simp_all
    simp only [callFunc, Sem.run_bind, run_program, Result.andThen_ok, hf, hc.2, Bool.false_eq_true, if_false, hb]
    rfl
  · simp at hc

theorem inv_call {f : Nat} {args : List O} (hc : cOp P o.op = some (.call f args)) : ∃ c, o.op = .call c ∧ c.callee = .value (.func f) ∧ callable P f = true ∧ c.args.toList.mapM (cO P) = some args := by
  unfold cOp at hc
  split at hc
  case h_23 =>
    rename_i c ho
    refine ⟨c, ho, ?_⟩
    unfold cCall at hc
    split at hc
    all_goals (try (repeat' (split at hc)) <;> (simp only [Option.bind_eq_bind, Option.bind_eq_some_iff, Option.pure_def, Option.some.injEq, Option.map_eq_some_iff, reduceCtorEq, and_false, exists_false] at hc))
    all_goals simp_all
  all_goals (try unfold cBin at hc) <;> (try unfold cEqB at hc) <;> (repeat' (split at hc)) <;> (simp only [Option.bind_eq_bind, Option.bind_eq_some_iff, Option.pure_def, Option.some.injEq, Option.map_eq_some_iff, reduceCtorEq, and_false, exists_false] at hc)

theorem inv_callv {x : O} {args : List O} (hc : cOp P o.op = some (.callv x args)) : ∃ c t, o.op = .call c ∧ c.callee = .value (.tmp t) ∧ x = .t t ∧ c.args.toList.mapM (cO P) = some args := by
  unfold cOp at hc
  split at hc
  case h_23 =>
    rename_i c ho
    refine ⟨c, ?_⟩
    unfold cCall at hc
    split at hc
    all_goals (try (repeat' (split at hc)) <;> (simp only [Option.bind_eq_bind, Option.bind_eq_some_iff, Option.pure_def, Option.some.injEq, Option.map_eq_some_iff, reduceCtorEq, and_false, exists_false] at hc))
    all_goals simp_all
  all_goals (try unfold cBin at hc) <;> (try unfold cEqB at hc) <;> (repeat' (split at hc)) <;> (simp only [Option.bind_eq_bind, Option.bind_eq_some_iff, Option.pure_def, Option.some.injEq, Option.map_eq_some_iff, reduceCtorEq, and_false, exists_false] at hc)

theorem inv_store {n : Nat} {x y : O} (hc : cOp P o.op = some (.store n x y)) : ∃ t x' y', o.op = .store t x' y' ∧ cSize P t = some n ∧ cO P x' = some x ∧ cO P y' = some y := by
  unfold cOp at hc
  split at hc
  case h_7 =>
    rename_i t x' y' ho
    refine ⟨t, x', y', ho, ?_⟩
    simp only [Option.bind_eq_bind, Option.bind_eq_some_iff, Option.pure_def, Option.some.injEq] at hc
    obtain ⟨n', h1, x2, h2, y2, h3, he⟩ := hc
    injection he with e1 e2 e3
    subst e1; subst e2; subst e3
    exact ⟨h1, h2, h3⟩
  all_goals (try unfold cBin at hc) <;> (try unfold cEqB at hc) <;> (try unfold cCall at hc) <;> (repeat' (split at hc)) <;> (simp only [Option.bind_eq_bind, Option.bind_eq_some_iff, Option.pure_def, Option.some.injEq, Option.map_eq_some_iff, reduceCtorEq, and_false, exists_false] at hc)

theorem inv_append {n : Nat} {x y : O} (hc : cOp P o.op = some (.append n x y)) : ∃ (t e : TypeId) (m : Nat) (z : List K) (i : TypeInfo) (x' y' : Operand), n = m + 1 ∧ o.op = .call { callee := .builtin .append, args := #[x', y'], argTypes := #[t, t] } ∧
    P.underlying t = some (.slice e) ∧ cSize P e = some (m + 1) ∧ cZero P e = some z ∧ P.info? e = some i ∧ i.bytes ≤ 32768 ∧ cO P x' = some x ∧ cO P y' = some y := by
  unfold cOp at hc
  split at hc
  case h_23 =>
    rename_i c ho
    unfold cCall at hc
    split at hc
    case h_2 =>
      rename_i hcal
      split at hc
      · rename_i x' y' t u h1 h2
        split at hc
        · rename_i e ht
          split at hc
          · rename_i m z i e1 e2 e3
            split at hc
            · rename_i hb
              simp only [Option.bind_eq_bind, Option.bind_eq_some_iff, Option.pure_def, Option.some.injEq] at hc
              obtain ⟨x2, h3, y2, h4, he⟩ := hc
              injection he with k1 k2 k3
              subst k1; subst k2; subst k3
              obtain ⟨hb1, rfl⟩ := hb
              refine ⟨t, e, m, z, i, x', y', rfl, ?_, ht, e1, e2, e3, hb1, h3, h4⟩
              rw [ho]
              obtain ⟨ca, cb, cc⟩ := c
              simp only at h1 h2 hcal
              subst hcal
              congr
              · exact Array.ext' h1
              · exact Array.ext' h2
            · simp at hc
          · simp at hc
        · simp at hc
      · simp at hc
    all_goals (repeat' (split at hc)) <;> (simp only [Option.bind_eq_bind, Option.bind_eq_some_iff, Option.pure_def, Option.some.injEq, Option.map_eq_some_iff, reduceCtorEq, and_false, exists_false] at hc)
  all_goals (try unfold cBin at hc) <;> (try unfold cEqB at hc) <;> (repeat' (split at hc)) <;> (simp only [Option.bind_eq_bind, Option.bind_eq_some_iff, Option.pure_def, Option.some.injEq, Option.map_eq_some_iff, reduceCtorEq, and_false, exists_false] at hc)

theorem inv_copy {n : Nat} {x y : O} (hc : cOp P o.op = some (.copy n x y)) : False := by
  unfold cOp at hc
  split at hc
  all_goals (try unfold cBin at hc) <;> (try unfold cEqB at hc) <;> (try unfold cCall at hc) <;> (repeat' (split at hc)) <;> (simp only [Option.bind_eq_bind, Option.bind_eq_some_iff, Option.pure_def, Option.some.injEq, Option.map_eq_some_iff, reduceCtorEq, and_false, exists_false] at hc)

theorem inv_clear {z : List K} {x : O} (hc : cOp P o.op = some (.clear z x)) : ∃ (t e : TypeId) (m : Nat) (x' : Operand), o.op = .call { callee := .builtin .clear, args := #[x'], argTypes := #[t] } ∧
    P.underlying t = some (.slice e) ∧ cSize P e = some (m + 1) ∧ cZero P e = some z ∧ cO P x' = some x := by
  unfold cOp at hc
  split at hc
  case h_23 =>
    rename_i c ho
    unfold cCall at hc
    split at hc
    case h_3 =>
      rename_i hcal
      split at hc
      · rename_i x' t h1 h2
        split at hc
        · rename_i e ht
          split at hc
          · rename_i m z' e1 e2
            simp only [Option.map_eq_some_iff] at hc
            obtain ⟨x2, h3, he⟩ := hc
            injection he with k1 k2
            subst k1; subst k2
            refine ⟨t, e, m, x', ?_, ht, e1, e2, h3⟩
            rw [ho]
            obtain ⟨ca, cb, cc⟩ := c
            simp only at h1 h2 hcal
            subst hcal
            congr
            · exact Array.ext' h1
            · exact Array.ext' h2
          · simp at hc
        · simp at hc
      · simp at hc
    all_goals (repeat' (split at hc)) <;> (simp only [Option.bind_eq_bind, Option.bind_eq_some_iff, Option.pure_def, Option.some.injEq, Option.map_eq_some_iff, reduceCtorEq, and_false, exists_false] at hc)
  all_goals (try unfold cBin at hc) <;> (try unfold cEqB at hc) <;> (repeat' (split at hc)) <;> (simp only [Option.bind_eq_bind, Option.bind_eq_some_iff, Option.pure_def, Option.some.injEq, Option.map_eq_some_iff, reduceCtorEq, and_false, exists_false] at hc)

def addR (g : Rows) (id : Id) : Option Row → Rows
  | some r => setR g id r
  | none => g

/-- A call's outcome: a value, or a new row. -/
def callR (X : CallP) (hid : List Nat) (site n : Nat) (f : Nat) (args : List AV) (g : Rows) (v : AV) (g' : Rows) : Prop :=
  (PCx X f args ⟨vis hid n g, n + 1⟩ (fun r => r = v) ∧ g' = g) ∨
  (hid.contains site = true ∧ ∃ sz rows, CM X f args ⟨vis hid n g, n + 1⟩ sz rows ∧ v = .own ⟨site, n⟩ 0 rows.length ∧ g' = setR g ⟨site, n⟩ ⟨true, sz, rows⟩)

/-- One operation, its outcome known. -/
def VS (X : CallP) (n : Nat) (vo : VOper) (env : Env) (g : Rows) (v : AV) (g' : Rows) : Prop :=
  match vo.op with
  | .call f args => callR X vo.hid vo.site n f (args.map (evO env)) g v g'
  | .callv x args => ∃ f caps, evO env x = .fn f caps ∧ callR X vo.hid vo.site n f (args.map (evO env) ++ caps) g v g'
  | .store .. | .append .. | .copy .. | .clear .. => eop vo.op (evO env) g ⟨vo.site, n⟩ = some (v, g')
  | _ => ∃ mr, qop vo.op (evO env) (vis vo.hid n g) ⟨vo.site, n⟩ = some (v, mr) ∧ g' = addR g ⟨vo.site, n⟩ mr

/-- What is known behind an operation. -/
def After (P : Program) (hs : Nat) (D : Nat → Prop) (ι : Names) (w : World) (U : Nat → Prop) (site n : Nat) (a : Act) (dst : Option Tmp) (v : AV) (g' : Rows) (a' : Act) (w' : World) : Prop :=
  ∃ u D' ι', a' = a.put dst u ∧ Step hs D ι w D' ι' w' ∧ Sim P hs D' ι' g' w' ∧ Rep P w' D' ι' v u ∧ Used ι' n (fun s => U s ∨ s = site)

theorem fresh {n : Nat} {U : Nat → Prop} {s : Nat} (h : Used ι n U) (hU : ¬ U s) : ι ⟨s, n⟩ = none := by
  cases hq : ι ⟨s, n⟩ with
  | none => rfl
  | some B =>
    rcases h ⟨s, n⟩ (by rw [hq]; simp) with h | ⟨_, h⟩
    · exact absurd h (Nat.lt_irrefl _)
    · exact absurd h hU
theorem Used.more {n : Nat} {U U' : Nat → Prop} (h : Used ι n U) (hU : ∀ s, U s → U' s) : Used ι n U' := fun id hid => by
  rcases h id hid with h | ⟨h1, h2⟩
  · exact .inl h
  · exact .inr ⟨h1, hU _ h2⟩
theorem Used.next {n : Nat} {U : Nat → Prop} (h : Used ι n U) : Used ι (n + 1) (fun _ => False) := fun id hid => by
  rcases h id hid with h | ⟨h1, _⟩
  · exact .inl (Nat.lt_succ_of_lt h)
  · exact .inl (by omega)
theorem Used.upd {n : Nat} {U : Nat → Prop} {s : Nat} {B : Blk} (h : Used ι n U) : Used (updN ι ⟨s, n⟩ B) n (fun x => U x ∨ x = s) := fun id hid => by
  by_cases he : id = ⟨s, n⟩
  · subst he; exact .inr ⟨rfl, .inr rfl⟩
  · rw [updN_ne he] at hid
    exact (h.more (U' := fun x => U x ∨ x = s) fun _ h => Or.inl h) id hid

theorem args_rep {xs : Array Operand} {ys : List O} (E : EnvRep P w D ι env a) (h : xs.toList.mapM (cO P) = some ys) : RepL P w D ι (ys.map (evO env)) (xs.map a.eval) := by
  obtain ⟨h1, h2⟩ := rep_Os E h
  refine ⟨by simpa using h1, fun j b hj => ?_⟩
  simp only [List.getElem?_map, Option.map_eq_some_iff] at hj
  obtain ⟨y, hy, rfl⟩ := hj
  have hlt : j < xs.size := by have := (List.getElem?_eq_some_iff.1 hy).1; simp at h1; omega
  refine ⟨a.eval xs[j], by simp [hlt], ?_⟩
  have := h2 j y hy
  simpa [List.getD_eq_getElem?_getD, hlt] using this

theorem VS_sound {n : Nat} {vo : VOper} {g' : Rows} {U : Nat → Prop} {Q : Exit → Act → World → Prop} {K : Act → World → Prop} (hc : cOp P o.op = some vo.op) (hv : VS (Sound P) n vo env g v g') (S : Sim P hs D ι g w) (Us : Used ι n U) (hU : ¬ U vo.site) (E : EnvRep P w D ι env a)
    (hK : ∀ a' w', After P hs D ι w U vo.site n a o.dst v g' a' w' → K a' w') : o.wp P a w K Q := by
  have hf := fresh Us hU
  have callCase : ∀ (f : Nat) (args : List AV) (vs : Array Value), callR (Sound P) vo.hid vo.site n f args g v g' → RepL P w D ι args vs → (execOp a.eval o).run P w = .ok (.enter f vs) w → o.wp P a w K Q := by
    intro f args vs hP hA hrun
    unfold Oper.wp
    rw [hrun]
    rcases hP with ⟨hP, rfl⟩ | ⟨_, sz, rows, hM, rfl, rfl⟩
    · refine (PCx_sound hP vis_sub S Us.next hA).mono ?_
      rintro e w' ⟨r, D', u, rfl, rfl, T, S', hR⟩
      exact hK _ _ ⟨u, D', ι, rfl, T, S', hR, Us.more fun _ h => .inl h⟩
    · refine (CM_sound hM vis_sub S Us.next hA hf).mono ?_
      rintro e w' ⟨u, B, rfl, T, S', hR⟩
      exact hK _ _ ⟨u, D, _, rfl, T, S', hR, Us.upd⟩
  have quiet : ∀ (mr : Option Row), qop vo.op (evO env) (vis vo.hid n g) ⟨vo.site, n⟩ = some (v, mr) → g' = addR g ⟨vo.site, n⟩ mr → o.wp P a w K Q := by
    intro mr hq hg
    have hqs := qop_sound hc hq (S.sub vis_sub) E
    unfold Oper.wp
    cases mr with
    | none =>
      obtain ⟨u, hrun, hR⟩ := hqs
      rw [hrun]
      subst hg
      exact hK _ _ ⟨u, D, ι, rfl, Step.refl _ _ _ _, S, hR, Us.more fun _ h => .inl h⟩
    | some r =>
      obtain ⟨u, cells, T, hrun, h1, h2, h3, h4, h5, h6⟩ := hqs
      rw [hrun]
      subst hg
      have S1 := S.alloc (id := ⟨vo.site, n⟩) (w' := w.alloc (.cells cells T)) rfl hf h1 h2 h3 h4 h5
      refine hK _ _ ⟨u, D, _, rfl, Step.stay S (fun k hk => Below.heap_alloc _ _ _ hk) (by simp) rfl rfl rfl (fun _ h => h) (fun _ h => .inl h) (updN_old hf), S1, (h6 (updN ι _ _) (updN_same _ _ _)).frame (fun b hd => Below.heap_alloc _ _ _ (S.dead b hd)) (fun _ h => h) (fun _ _ h => h), Us.upd⟩
  have eff : eop vo.op (evO env) g ⟨vo.site, n⟩ = some (v, g') → (∀ w'', ERes P hs a o w'' D ι ⟨vo.site, n⟩ v g' → w'' = w → o.wp P a w K Q) := by
    intro _ w'' hE he
    subst he
    obtain ⟨u, w', ι', hrun, T, S', hR, hι⟩ := hE
    have hafter : After P hs D ι w'' U vo.site n a o.dst v g' (a.put o.dst u) w' := ⟨u, D, ι', rfl, T, S', hR, fun id hid => by
      by_cases he : id = ⟨vo.site, n⟩
      · subst he; exact .inr ⟨rfl, .inr rfl⟩
      · rw [hι id he] at hid
        exact (Us.more (U' := fun x => U x ∨ x = vo.site) fun _ h => Or.inl h) id hid⟩
    unfold Oper.wp
    rcases hrun with hrun | ⟨hrun, rfl⟩
    · rw [hrun]; exact hK _ _ hafter
    · rw [hrun]; exact hK _ _ hafter
  unfold VS at hv
  split at hv
  · rename_i f args hop
    rw [hop] at hc
    obtain ⟨c, ho, hcal, hcb, hargs⟩ := inv_call hc
    refine callCase f _ (c.args.map a.eval) hv (args_rep E hargs) ?_
    simp only [execOp, ho, resolve, hcal, Deferred.ofValue, Act.eval, Sem.run_bind, Sem.run_pure, Result.andThen_ok, invoke, Array.empty_append, Array.append_empty]
    exact run_callFunc hcb
  · rename_i x args hop
    obtain ⟨f, caps, hx, hP⟩ := hv
    rw [hop] at hc
    obtain ⟨c, t, ho, hcal, rfl, hargs⟩ := inv_callv hc
    have hr : Rep P w D ι (.fn f caps) (a.eval (.tmp t)) := by have := E t; simp only [evO] at hx; rw [hx] at this; exact this
    obtain ⟨vs, q, he, hcb, n1, q1, q2⟩ := rep_fn hr
    have hcaps : RepL P w D ι caps vs := ⟨n1, fun j b hj => ⟨q j, q1 j (List.getElem?_eq_some_iff.1 hj).1, q2 j b hj⟩⟩
    have hA := args_rep E hargs
    refine callCase f _ (c.args.map a.eval ++ vs) hP ⟨by simp [hcaps.1, hA.1], fun j b hj => ?_⟩ ?_
    · by_cases hlt : j < (args.map (evO env)).length
      · rw [List.getElem?_append_left hlt] at hj
        obtain ⟨u, hu, hru⟩ := hA.2 j b hj
        exact ⟨u, by rw [Array.getElem?_append_left (by rw [hA.1]; exact hlt)]; exact hu, hru⟩
      · rw [List.getElem?_append_right (by omega)] at hj
        obtain ⟨u, hu, hru⟩ := hcaps.2 _ b hj
        exact ⟨u, by rw [Array.getElem?_append_right (by rw [hA.1]; omega), hA.1]; exact hu, hru⟩
    · simp only [execOp, ho, resolve, hcal, he, Deferred.ofValue, Sem.run_bind, Sem.run_pure, Result.andThen_ok, invoke, Array.empty_append]
      exact run_callFunc hcb
  · rename_i m x y hop
    have hc' := hc
    rw [hop] at hc'
    obtain ⟨t, x', y', ho, h1, h2, h3⟩ := inv_store hc'
    have hv' := hv
    rw [hop] at hv'
    simp only [eop, Option.map_eq_some_iff, Prod.mk.injEq] at hv'
    obtain ⟨g1, hg1, rfl, rfl⟩ := hv'
    exact eff hv w (e_store S E ho h1 h2 h3 hg1) rfl
  · rename_i m x y hop
    have hc' := hc
    rw [hop] at hc'
    obtain ⟨t, e, m', z, i, x', y', rfl, ho, h1, h2, h3, h4, h5, h6, h7⟩ := inv_append hc'
    have hv' := hv
    rw [hop] at hv'
    simp only [eop, Option.bind_eq_some_iff] at hv'
    obtain ⟨ys, hys, hv'⟩ := hv'
    exact eff hv w (e_append S E hf ho h1 h2 h3 h4 h5 h6 h7 hys hv') rfl
  · rename_i m x y hop
    rw [hop] at hc
    exact (inv_copy hc).elim
  · rename_i z x hop
    have hc' := hc
    rw [hop] at hc'
    obtain ⟨t, e, m', x', ho, h1, h2, h3, h4⟩ := inv_clear hc'
    have hv' := hv
    rw [hop] at hv'
    simp only [eop, Option.map_eq_some_iff, Prod.mk.injEq] at hv'
    obtain ⟨g1, hg1, rfl, rfl⟩ := hv'
    exact eff hv w (e_clear S E ho h1 h2 h3 h4 hg1) rfl
  · obtain ⟨mr, hq, hg⟩ := hv
    exact quiet mr hq hg

end
end Go.Proofs.YtpbniieiinhliaaGreat.V

namespace Go.Proofs.YtpbniieiinhliaaGreat.V
open Go.RowKit

variable {P : Program} {w w' : World} {D D' D2 : Nat → Prop} {ι ι' ι2 : Names}
section
variable {g : Rows} {hs : Nat} {env : Env} {a : Act} {o : Oper} {id : Id} {v : AV}

theorem cOper_inv {ops : Array Oper} {nt site0 j : Nat} {draw mk : Bool} {bs : Array Nat} {hidden : List (Nat × Bool)} {vo : VOper} (h : cOper P ops nt site0 draw mk bs hidden j o = some vo) :
    cOp P o.op = some vo.op ∧ vo.dst = o.dst ∧ vo.site = site0 + j ∧ (∀ d, o.dst = some d → d < nt) ∧ (match o.guard with
      | none => vo.guard = none
      | some (i, b) => ∃ t, (ops[i]?).bind (·.dst) = some t ∧ vo.guard = some (t, b)) := by
  unfold cOper at h
  simp only [Option.bind_eq_bind, Option.bind_eq_some_iff] at h
  obtain ⟨v, hv, gd, hg, h⟩ := h
  split at h
  · rename_i hd
    simp only [Option.pure_def, Option.some.injEq] at h
    subst h
    refine ⟨hv, rfl, rfl, fun d hd' => ?_, ?_⟩
    · rw [hd'] at hd; simpa using hd
    · unfold cGuard at hg
      cases hgo : o.guard with
      | none => rw [hgo] at hg; simp at hg; exact hg.symm
      | some p =>
        obtain ⟨i, b⟩ := p
        rw [hgo] at hg
        dsimp only at hg ⊢
        split at hg
        · rename_i t ht
          simp at hg; exact ⟨t, ht, hg.symm⟩
        · simp at hg
  · simp at h

theorem wanted_eq {ops : Array Oper} {vo : VOper} (E : EnvRep P w D ι env a) (hg : match o.guard with
      | none => vo.guard = none
      | some (i, b) => ∃ t, (ops[i]?).bind (·.dst) = some t ∧ vo.guard = some (t, b)) : wantedV vo.guard env = Region.wanted o (yielded ops a.tmps) := by
  unfold Region.wanted
  cases hgo : o.guard with
  | none => rw [hgo] at hg; simp only at hg; rw [hg]; rfl
  | some p =>
    obtain ⟨i, b⟩ := p
    rw [hgo] at hg
    obtain ⟨t, ht, hv⟩ := hg
    rw [hv]
    simp only [wantedV, yielded, ht, Option.bind_some]
    have hr := E t
    by_cases hlt : t < a.tmps.size
    · have hget : a.tmps[t]? = some a.tmps[t] := Array.getElem?_eq_getElem hlt
      have hd : a.tmps.getD t undef = a.tmps[t] := by simp [hlt]
      rw [hd] at hr
      rw [hget]
      generalize a.tmps[t] = u at hr
      cases he : env t with
      | bool c => rw [he] at hr; rw [rep_bool hr]; simp
      | _ =>
        rw [he] at hr
        have : ∀ c, u ≠ .bool c := by
          intro c hu
          subst hu
          cases hr with
          | imm _ _ h => cases h
        cases u <;> simp_all
    · have hget : a.tmps[t]? = none := Array.getElem?_eq_none (Nat.le_of_not_lt hlt)
      have hd : a.tmps.getD t undef = undef := by simp [hget]
      rw [hd] at hr
      rw [hget]
      cases he : env t with
      | bool c => rw [he] at hr; have := rep_bool hr; simp [undef] at this
      | _ => simp

theorem env_put {dst : Option Nat} {nt : Nat} {u : Value} (E : EnvRep P w D ι env a) (hr : Rep P w D ι v u) (hd : ∀ d, dst = some d → d < nt) (hs : a.tmps.size = nt) : EnvRep P w D ι (upd env dst v) (a.put dst u) := by
  intro t
  cases dst with
  | none => exact E t
  | some d =>
    have hlt : d < a.tmps.size := by rw [hs]; exact hd d rfl
    simp only [upd, Act.put]
    by_cases ht : t = d
    · subst ht
      simp [hlt]; exact hr
    · rw [if_neg ht]
      have : (a.tmps.setIfInBounds d u).getD t undef = a.tmps.getD t undef := by
        simp only [Array.getD_eq_getD_getElem?]
        rw [Array.getElem?_setIfInBounds_ne (fun e => ht e.symm)]
      rw [this]; exact E t
theorem env_step {hs : Nat} (E : EnvRep P w D ι env a) (T : Step hs D ι w D' ι' w') : EnvRep P w' D' ι' env a := fun t => T.rep (E t)
theorem put_size (a : Act) (dst : Option Tmp) (u : Value) : (a.put dst u).tmps.size = a.tmps.size := by cases dst <;> simp [Act.put]
theorem put_defers (a : Act) (dst : Option Tmp) (u : Value) : (a.put dst u).defers = a.defers := by cases dst <;> rfl

/-- What is known behind an operation, a call that shares the rows among them. -/
theorem vop_sound {draw : Bool} {vo : VOper} {σ : Store} {next : AV → Store → Prop} {U : Nat → Prop} {Q : Exit → Act → World → Prop} {K : Act → World → Prop} (hc : cOp P o.op = some vo.op) (hv : vop (Sound P) draw vo env σ next) (S : Sim P hs D ι σ.get w) (Us : Used ι σ.next U) (hU : ¬ U vo.site) (E : EnvRep P w D ι env a)
    (hK : ∀ v σ' u D' ι' w', next v σ' → Step hs D ι w D' ι' w' → Sim P hs D' ι' σ'.get w' → Rep P w' D' ι' v u → Used ι' σ'.next (fun s => U s ∨ s = vo.site) → σ.next ≤ σ'.next → K (a.put o.dst u) w') : o.wp P a w K Q := by
  have close : ∀ v g', VS (Sound P) σ.next vo env σ.get v g' → next v ⟨g', σ.next⟩ → o.wp P a w K Q := fun v g' h1 h2 =>
    VS_sound hc h1 S Us hU E fun a' w' ⟨u, D', ι', ha, T, S', hR, U'⟩ => by subst ha; exact hK v ⟨g', σ.next⟩ u D' ι' w' h2 T S' hR U' (Nat.le_refl _)
  have openC : ∀ (f : Nat) (args : List AV) (vs : Array Value), Sound P f args ⟨σ.get, σ.next + 1⟩ next → RepL P w D ι args vs → (execOp a.eval o).run P w = .ok (.enter f vs) w → o.wp P a w K Q := by
    intro f args vs h hA hrun
    unfold Oper.wp
    rw [hrun]
    refine (h hs D ι w vs S Us.next hA).mono ?_
    rintro e w' ⟨r, g', n', D', ι', u, rfl, hn, T, S', U', hle, hR⟩
    exact hK r ⟨g', n'⟩ u D' ι' w' hn T S' hR (U'.more fun _ h => h.elim) (Nat.le_trans (Nat.le_succ _) hle)
  unfold vop at hv
  split at hv
  · rename_i f args hop
    rcases hv with ⟨r, hP, hn⟩ | ⟨_, hX⟩ | ⟨hs1, sz, rows, hM, hn⟩
    · exact close r σ.get (by unfold VS; rw [hop]; exact .inl ⟨hP, rfl⟩) hn
    rotate_left
    · exact close _ _ (by unfold VS; rw [hop]; exact .inr ⟨hs1, sz, rows, hM, rfl, rfl⟩) hn
    · have hc' := hc
      rw [hop] at hc'
      obtain ⟨c, ho, hcal, hcb, hargs⟩ := inv_call hc'
      refine openC f _ (c.args.map a.eval) hX (args_rep E hargs) ?_
      simp only [execOp, ho, resolve, hcal, Deferred.ofValue, Act.eval, Sem.run_bind, Sem.run_pure, Result.andThen_ok, invoke, Array.empty_append, Array.append_empty]
      exact run_callFunc hcb
  · rename_i x args hop
    split at hv
    · rename_i f caps hx
      rcases hv with ⟨r, hP, hn⟩ | ⟨_, hX⟩ | ⟨hs1, sz, rows, hM, hn⟩
      · exact close r σ.get (by unfold VS; rw [hop]; exact ⟨f, caps, hx, .inl ⟨hP, rfl⟩⟩) hn
      rotate_left
      · exact close _ _ (by unfold VS; rw [hop]; exact ⟨f, caps, hx, .inr ⟨hs1, sz, rows, hM, rfl, rfl⟩⟩) hn
      · have hc' := hc
        rw [hop] at hc'
        obtain ⟨c, t, ho, hcal, rfl, hargs⟩ := inv_callv hc'
        have hr : Rep P w D ι (.fn f caps) (a.eval (.tmp t)) := by have := E t; simp only [evO] at hx; rw [hx] at this; exact this
        obtain ⟨vs, q, he, hcb, n1, q1, q2⟩ := rep_fn hr
        have hcaps : RepL P w D ι caps vs := ⟨n1, fun j b hj => ⟨q j, q1 j (List.getElem?_eq_some_iff.1 hj).1, q2 j b hj⟩⟩
        have hA := args_rep E hargs
        refine openC f _ (c.args.map a.eval ++ vs) hX ⟨by simp [hcaps.1, hA.1], fun j b hj => ?_⟩ ?_
        · by_cases hlt : j < (args.map (evO env)).length
          · rw [List.getElem?_append_left hlt] at hj
            obtain ⟨u, hu, hru⟩ := hA.2 j b hj
            exact ⟨u, by rw [Array.getElem?_append_left (by rw [hA.1]; exact hlt)]; exact hu, hru⟩
          · rw [List.getElem?_append_right (by omega)] at hj
            obtain ⟨u, hu, hru⟩ := hcaps.2 _ b hj
            exact ⟨u, by rw [Array.getElem?_append_right (by rw [hA.1]; omega), hA.1]; exact hu, hru⟩
        · simp only [execOp, ho, resolve, hcal, he, Deferred.ofValue, Sem.run_bind, Sem.run_pure, Result.andThen_ok, invoke, Array.empty_append]
          exact run_callFunc hcb
    · exact hv.elim
  · rename_i m x y hop
    split at hv
    · rename_i v' g' he
      exact close v' g' (by unfold VS; rw [hop]; rw [hop] at he; exact he) hv
    · exact hv.elim
  · rename_i m x y hop
    split at hv
    · rename_i v' g' he
      exact close v' g' (by unfold VS; rw [hop]; rw [hop] at he; exact he) hv
    · exact hv.elim
  · rename_i m x y hop
    split at hv
    · rename_i v' g' he
      exact close v' g' (by unfold VS; rw [hop]; rw [hop] at he; exact he) hv
    · exact hv.elim
  · rename_i m x hop
    split at hv
    · rename_i v' g' he
      exact close v' g' (by unfold VS; rw [hop]; rw [hop] at he; exact he) hv
    · exact hv.elim
  · rename_i n1 n2 n3 n4 n5 n6
    split at hv
    · rename_i v' r hq
      refine close v' (setR σ.get ⟨vo.site, σ.next⟩ r) ?_ hv
      unfold VS
      split
      · rename_i h; exact (n1 _ _ h).elim
      · rename_i h; exact (n2 _ _ h).elim
      · rename_i h; exact (n3 _ _ _ h).elim
      · rename_i h; exact (n4 _ _ _ h).elim
      · rename_i h; exact (n5 _ _ _ h).elim
      · rename_i h; exact (n6 _ _ h).elim
      · exact ⟨some r, hq, rfl⟩
    · rename_i v' hq
      refine close v' σ.get ?_ hv
      unfold VS
      split
      · rename_i h; exact (n1 _ _ h).elim
      · rename_i h; exact (n2 _ _ h).elim
      · rename_i h; exact (n3 _ _ _ h).elim
      · rename_i h; exact (n4 _ _ _ h).elim
      · rename_i h; exact (n5 _ _ _ h).elim
      · rename_i h; exact (n6 _ _ h).elim
      · exact ⟨none, hq, rfl⟩
    · exact hv.elim

/-- A state of the machine that a state of the small language describes. -/
structure St (P : Program) (hs nt : Nat) (D : Nat → Prop) (ι : Names) (env : Env) (σ : Store) (a : Act) (w : World) : Prop where
  sim : Sim P hs D ι σ.get w
  used : Used ι σ.next (fun _ => False)
  env : EnvRep P w D ι env a
  size : a.tmps.size = nt

theorem ops_sound {ops : Array Oper} {nt site0 : Nat} {draw mk : Bool} {bs : Array Nat} {hidden : List (Nat × Bool)} {K : Env → Store → Prop} {Q : Exit → Act → World → Prop} : ∀ (l : List Oper) (vl : List VOper) (j : Nat) (env : Env) (σ : Store) (a : Act) (w : World) (D : Nat → Prop) (ι : Names) (U : Nat → Prop),
    allM (cOper P ops nt site0 draw mk bs hidden) l j = some vl → wpOps (Sound P) draw vl K env σ → Sim P hs D ι σ.get w → Used ι σ.next U → (∀ s, U s → s < site0 + j) → EnvRep P w D ι env a → a.tmps.size = nt →
    (∀ env' σ' a' w' D' ι', K env' σ' → Step hs D ι w D' ι' w' → St P hs nt D' ι' env' σ' a' w' → a'.defers = a.defers → σ.next ≤ σ'.next → Q .normal a' w') → wpList P ops Q l a w := by
  intro l
  induction l with
  | nil =>
    intro vl j env σ a w D ι U h hv S Us _ E hsz hQ
    simp [allM] at h; subst h
    exact hQ env ⟨σ.get, σ.next + 1⟩ a w D ι hv (Step.refl _ _ _ _) ⟨S, Us.next, E, hsz⟩ rfl (Nat.le_succ _)
  | cons o l ih =>
    intro vl j env σ a w D ι U h hv S Us hU E hsz hQ
    simp only [allM, Option.bind_eq_bind, Option.bind_eq_some_iff, Option.pure_def, Option.some.injEq] at h
    obtain ⟨vo, hvo, vl', hvl, rfl⟩ := h
    obtain ⟨hc, hd, hsite, hdst, hg⟩ := cOper_inv hvo
    have hw := wanted_eq (ops := ops) (vo := vo) E hg
    unfold wpOps at hv
    unfold wpList
    rw [← hw]
    split at hv
    · rename_i hwt
      rw [if_pos hwt]
      refine .inl (vop_sound hc hv S Us (fun h => by have := hU _ h; omega) E fun v σ' u D' ι' w' hn T S' hR U' hle => ?_)
      refine ih vl' (j + 1) (upd env vo.dst v) σ' (a.put o.dst u) w' D' ι' _ hvl hn S' U' (fun s hs' => by
        rcases hs' with h | h
        · have := hU _ h; omega
        · omega) (by rw [hd]; exact env_put (env_step E T) hR hdst hsz) (by rw [put_size]; exact hsz) fun env' σ2 a' w2 D2 ι2 hk T2 St2 hdf hle2 => hQ env' σ2 a' w2 D2 ι2 hk (T.trans T2) St2 (hdf.trans (put_defers _ _ _)) (Nat.le_trans hle hle2)
    · rename_i hwt
      rw [if_neg hwt]
      refine ih vl' (j + 1) (upd env vo.dst .undef) σ (a.put o.dst undef) w D ι U hvl hv S Us (fun s hs' => by have := hU _ hs'; omega) (by rw [hd]; exact env_put E Rep.undef hdst hsz) (by rw [put_size]; exact hsz) fun env' σ2 a' w2 D2 ι2 hk T2 St2 hdf hle2 => hQ env' σ2 a' w2 D2 ι2 hk T2 St2 (hdf.trans (put_defers _ _ _)) hle2

end
end Go.Proofs.YtpbniieiinhliaaGreat.V

namespace Go.Proofs.YtpbniieiinhliaaGreat.V
open Go.RowKit

variable {P : Program} {w w' : World} {D D' D2 : Nat → Prop} {ι ι' ι2 : Names}
section
variable {hs : Nat} {X : CallP}

/-! ### What an operation looks at -/

theorem evO_congr {env env2 : Env} {x : O} (h : ∀ t ∈ oSlots x, env t = env2 t) : evO env x = evO env2 x := by
  cases x with
  | t n => exact h n (by simp [oSlots])
  | _ => rfl
theorem map_congr {env env2 : Env} {l : List O} (h : ∀ t ∈ l.flatMap oSlots, env t = env2 t) : l.map (evO env) = l.map (evO env2) :=
  List.map_congr_left fun x hx => evO_congr fun t ht => h t (List.mem_flatMap.2 ⟨x, hx, ht⟩)
theorem opt_congr {env env2 : Env} {x : Option O} (h : ∀ t ∈ optSlots x, env t = env2 t) : x.map (evO env) = x.map (evO env2) := by
  cases x with
  | none => rfl
  | some y => simp only [Option.map_some]; rw [evO_congr h]

theorem qop_congr {env env2 : Env} {o : VOp} {g : Rows} {id : Id} (h : ∀ t ∈ o.slots, env t = env2 t) : qop o (evO env) g id = qop o (evO env2) g id := by
  cases o <;> simp only [VOp.slots, List.mem_append] at h <;> simp only [qop]
  case mov x => rw [evO_congr h]
  case pick c a b => rw [evO_congr (x := c) fun t ht => h t (.inl (.inl ht)), evO_congr (x := a) fun t ht => h t (.inl (.inr ht)), evO_congr (x := b) fun t ht => h t (.inr ht)]
  case box x => rw [evO_congr h]
  case build z ps =>
    have : (ps.map fun (x : Nat × Nat × O) => (x.1, x.2.1, evO env x.2.2)) = ps.map fun (x : Nat × Nat × O) => (x.1, x.2.1, evO env2 x.2.2) := List.map_congr_left fun x hx => by
      rw [evO_congr (x := x.2.2) fun t ht => h t (List.mem_flatMap.2 ⟨x, hx, ht⟩)]
    rw [this]
  case bslice a b l => rw [map_congr h]
  case load a n x => rw [evO_congr h]
  case chk x => rw [evO_congr h]
  case bin a b x y => rw [evO_congr (x := x) fun t ht => h t (.inl ht), evO_congr (x := y) fun t ht => h t (.inr ht)]
  case sh a x y => rw [evO_congr (x := x) fun t ht => h t (.inl ht), evO_congr (x := y) fun t ht => h t (.inr ht)]
  case cmpS a x y => rw [evO_congr (x := x) fun t ht => h t (.inl ht), evO_congr (x := y) fun t ht => h t (.inr ht)]
  case eqS a b x y => rw [evO_congr (x := x) fun t ht => h t (.inl ht), evO_congr (x := y) fun t ht => h t (.inr ht)]
  case eqA a b x y => rw [evO_congr (x := x) fun t ht => h t (.inl ht), evO_congr (x := y) fun t ht => h t (.inr ht)]
  case eqN a b x => rw [evO_congr h]
  case not x => rw [evO_congr h]
  case neg x => rw [evO_congr h]
  case conv k x => rw [evO_congr h]
  case convS x => rw [evO_congr h]
  case slice s x lo hi => rw [evO_congr (x := x) fun t ht => h t (.inl (.inl ht)), opt_congr (x := lo) fun t ht => h t (.inl (.inr ht)), opt_congr (x := hi) fun t ht => h t (.inr ht)]
  case sliceS x lo hi => rw [evO_congr (x := x) fun t ht => h t (.inl (.inl ht)), opt_congr (x := lo) fun t ht => h t (.inl (.inr ht)), opt_congr (x := hi) fun t ht => h t (.inr ht)]
  case faddr k x => rw [evO_congr h]
  case field a b c x => rw [evO_congr h]
  case iaddr s x y => rw [evO_congr (x := x) fun t ht => h t (.inl ht), evO_congr (x := y) fun t ht => h t (.inr ht)]
  case idxS x y => rw [evO_congr (x := x) fun t ht => h t (.inl ht), evO_congr (x := y) fun t ht => h t (.inr ht)]
  case idxA a b c x y => rw [evO_congr (x := x) fun t ht => h t (.inl ht), evO_congr (x := y) fun t ht => h t (.inr ht)]
  case extract i x => rw [evO_congr h]
  case len x => rw [evO_congr h]
  case lenS x => rw [evO_congr h]
  case mkfn f l => rw [map_congr h]
  case mkslice z x y => rw [evO_congr (x := x) fun t ht => h t (.inl ht), evO_congr (x := y) fun t ht => h t (.inr ht)]

theorem eop_congr {env env2 : Env} {o : VOp} {g : Rows} {id : Id} (h : ∀ t ∈ o.slots, env t = env2 t) : eop o (evO env) g id = eop o (evO env2) g id := by
  cases o <;> simp only [VOp.slots, List.mem_append] at h <;> simp only [eop]
  case clear z x => rw [evO_congr h]
  all_goals rename_i a x y
  all_goals rw [evO_congr (x := x) fun t ht => h t (.inl ht), evO_congr (x := y) fun t ht => h t (.inr ht)]

theorem VS_congr {n : Nat} {vo : VOper} {env env2 : Env} {g g' : Rows} {v : AV} (h : ∀ t ∈ vo.op.slots, env t = env2 t) (hv : VS X n vo env g v g') : VS X n vo env2 g v g' := by
  unfold VS at hv ⊢
  split at hv
  · rename_i f args hop
    rw [hop] at h
    simp only [VOp.slots] at h
    rw [← map_congr h]; exact hv
  · rename_i x args hop
    rw [hop] at h
    simp only [VOp.slots, List.mem_append] at h
    rw [← map_congr (l := args) fun t ht => h t (.inr ht), ← evO_congr (x := x) fun t ht => h t (.inl ht)]; exact hv
  · rw [← eop_congr h]; exact hv
  · rw [← eop_congr h]; exact hv
  · rw [← eop_congr h]; exact hv
  · rw [← eop_congr h]; exact hv
  · rw [← qop_congr h]; exact hv

theorem qop_make {o : VOp} {ρ : O → AV} {g : Rows} {id : Id} {v : AV} {r : Row} (h : qop o ρ g id = some (v, some r)) : makesB o = true := by
  cases o <;> simp only [qop] at h <;> (try rfl) <;> (try simp at h)
  all_goals (try (split at h <;> simp at h))
theorem qop_pure {o : VOp} {ρ : O → AV} {g g2 : Rows} {id id2 : Id} (h : o.cls = .pure) : qop o ρ g id = qop o ρ g2 id2 := by
  cases o <;> simp [VOp.cls] at h <;> simp only [qop]

/-- An operation that does not write. -/
theorem VS_quiet {n : Nat} {vo : VOper} {env : Env} {g g' : Rows} {v : AV} (hw : vo.op.cls ≠ .write) (hv : VS X n vo env g v g') : ∃ mr, g' = addR g ⟨vo.site, n⟩ mr ∧ (mr ≠ none → vo.makes = true) ∧ ∀ g0, vis vo.hid n g0 = vis vo.hid n g → VS X n vo env g0 v (addR g0 ⟨vo.site, n⟩ mr) := by
  unfold VS at hv
  split at hv
  · rename_i f args hop
    rcases hv with ⟨h1, rfl⟩ | ⟨hs, sz, rows, hM, rfl, rfl⟩
    · refine ⟨none, rfl, fun h => (h rfl).elim, fun g0 h0 => ?_⟩
      unfold VS; rw [hop]; simp only; unfold callR; rw [h0]; exact .inl ⟨h1, rfl⟩
    · refine ⟨some _, rfl, fun _ => by unfold VOper.makes; rw [hop, hs]; simp [VOp.isCall], fun g0 h0 => ?_⟩
      unfold VS; rw [hop]; simp only; unfold callR; rw [h0]; exact .inr ⟨hs, sz, rows, hM, rfl, rfl⟩
  · rename_i x args hop
    obtain ⟨f, caps, hx, hv⟩ := hv
    rcases hv with ⟨h1, rfl⟩ | ⟨hs, sz, rows, hM, rfl, rfl⟩
    · refine ⟨none, rfl, fun h => (h rfl).elim, fun g0 h0 => ?_⟩
      unfold VS; rw [hop]; simp only; unfold callR; rw [h0]; exact ⟨f, caps, hx, .inl ⟨h1, rfl⟩⟩
    · refine ⟨some _, rfl, fun _ => by unfold VOper.makes; rw [hop, hs]; simp [VOp.isCall], fun g0 h0 => ?_⟩
      unfold VS; rw [hop]; simp only; unfold callR; rw [h0]; exact ⟨f, caps, hx, .inr ⟨hs, sz, rows, hM, rfl, rfl⟩⟩
  · rename_i hop; rw [hop] at hw; exact (hw rfl).elim
  · rename_i hop; rw [hop] at hw; exact (hw rfl).elim
  · rename_i hop; rw [hop] at hw; exact (hw rfl).elim
  · rename_i hop; rw [hop] at hw; exact (hw rfl).elim
  · rename_i n1 n2 n3 n4 n5 n6
    obtain ⟨mr, hq, rfl⟩ := hv
    refine ⟨mr, rfl, fun h => ?_, fun g0 h0 => ?_⟩
    · cases mr with
      | none => exact (h rfl).elim
      | some r => unfold VOper.makes; rw [qop_make hq]; rfl
    · unfold VS
      split
      · rename_i hh; exact (n1 _ _ hh).elim
      · rename_i hh; exact (n2 _ _ hh).elim
      · rename_i hh; exact (n3 _ _ _ hh).elim
      · rename_i hh; exact (n4 _ _ _ hh).elim
      · rename_i hh; exact (n5 _ _ _ hh).elim
      · rename_i hh; exact (n6 _ _ hh).elim
      · rw [h0]; exact ⟨mr, hq, rfl⟩

theorem VS_pure {n : Nat} {vo : VOper} {env : Env} {g g' : Rows} {v : AV} (hp : vo.op.cls = .pure) (hv : VS X n vo env g v g') : g' = g ∧ ∀ g0, VS X n vo env g0 v g0 := by
  unfold VS at hv
  split at hv
  · rename_i hop; rw [hop] at hp; simp [VOp.cls] at hp
  · rename_i hop; rw [hop] at hp; simp [VOp.cls] at hp
  · rename_i hop; rw [hop] at hp; simp [VOp.cls] at hp
  · rename_i hop; rw [hop] at hp; simp [VOp.cls] at hp
  · rename_i hop; rw [hop] at hp; simp [VOp.cls] at hp
  · rename_i hop; rw [hop] at hp; simp [VOp.cls] at hp
  · rename_i n1 n2 n3 n4 n5 n6
    obtain ⟨mr, hq, rfl⟩ := hv
    have hmr : mr = none := by
      cases mr with
      | none => rfl
      | some r => have := qop_make hq; simp [makesB, hp] at this
    subst hmr
    refine ⟨rfl, fun g0 => ?_⟩
    unfold VS
    split
    · rename_i hh; exact (n1 _ _ hh).elim
    · rename_i hh; exact (n2 _ _ hh).elim
    · rename_i hh; exact (n3 _ _ _ hh).elim
    · rename_i hh; exact (n4 _ _ _ hh).elim
    · rename_i hh; exact (n5 _ _ _ hh).elim
    · rename_i hh; exact (n6 _ _ hh).elim
    · exact ⟨none, by rw [qop_pure hp]; exact hq, rfl⟩

/-- One operation with its guard. -/
def GS (X : CallP) (n : Nat) (vo : VOper) (env : Env) (g : Rows) (v : AV) (g' : Rows) : Prop :=
  if wantedV vo.guard env then VS X n vo env g v g' else v = .undef ∧ g' = g

theorem vis_hide {hid : List Nat} {g : Rows} {s n : Nat} {mr : Option Row} (h : mr ≠ none → hid.contains s = true) : vis hid n (addR g ⟨s, n⟩ mr) = vis hid n g := by
  cases mr with
  | none => rfl
  | some r =>
    have hc := h (by simp)
    cases hid with
    | nil => simp at hc
    | cons a l =>
      funext i
      show (if (a :: l).contains i.site = true ∧ i.ver = n then none else addR g ⟨s, n⟩ (some r) i) = if (a :: l).contains i.site = true ∧ i.ver = n then none else g i
      by_cases hi : i = ⟨s, n⟩
      · subst hi; rw [if_pos ⟨hc, rfl⟩, if_pos ⟨hc, rfl⟩]
      · simp only [addR, setR, if_neg hi]
theorem addR_comm {g : Rows} {i j : Id} (h : i ≠ j) (m1 m2 : Option Row) : addR (addR g i m1) j m2 = addR (addR g j m2) i m1 := by
  cases m1 <;> cases m2 <;> simp only [addR]
  funext k
  simp only [setR]
  by_cases h1 : k = i
  · subst h1; rw [if_neg h, if_pos rfl]; simp
  · by_cases h2 : k = j
    · subst h2; simp [h1]
    · simp [h1, h2]
theorem upd_comm {env : Env} {d e : Option Nat} {v u : AV} (h : ∀ k, d = some k → e ≠ some k) : upd (upd env d v) e u = upd (upd env e u) d v := by
  cases d with
  | none => rfl
  | some d =>
    cases e with
    | none => rfl
    | some e =>
      have hne : d ≠ e := fun he => h d rfl (by rw [he])
      funext t
      simp only [upd]
      by_cases h1 : t = d
      · subst h1; rw [if_neg hne, if_pos rfl, if_pos rfl]
      · by_cases h2 : t = e
        · subst h2; rw [if_pos rfl, if_neg h1, if_pos rfl]
        · simp [h1, h2]
theorem upd_slot {env : Env} {d : Option Nat} {v : AV} {l : List Nat} (h : ∀ k, d = some k → k ∉ l) : ∀ t ∈ l, upd env d v t = env t := by
  intro t ht
  cases d with
  | none => rfl
  | some d =>
    have : t ≠ d := fun he => h d rfl (he ▸ ht)
    simp [upd, this]

structure Free (x y : VOper) : Prop where
  xy : ∀ k, x.dst = some k → k ∉ y.slots
  yx : ∀ k, y.dst = some k → k ∉ x.slots
  dst : ∀ k, x.dst = some k → y.dst ≠ some k
  cls : clash x.op.cls y.op.cls = false
  hx : x.makes = true → y.hid.contains x.site = true
  hy : y.makes = true → x.hid.contains y.site = true
  site : x.site ≠ y.site
theorem Free.symm {x y : VOper} (h : Free x y) : Free y x :=
  ⟨h.yx, h.xy, fun k hk he => h.dst k he hk, by have := h.cls; revert this; cases x.op.cls <;> cases y.op.cls <;> simp [clash], h.hy, h.hx, fun e => h.site e.symm⟩
theorem freeV_free {x y : VOper} (h : freeV x y = true) : Free x y := by
  unfold freeV at h
  simp only [Bool.and_eq_true, Bool.not_eq_true', Bool.or_eq_true, bne_iff_ne] at h
  obtain ⟨⟨⟨⟨h1, h2⟩, h3⟩, h4⟩, h5⟩ := h
  unfold vapart at h1
  simp only [Bool.and_eq_true] at h1
  obtain ⟨a1, a2⟩ := h1
  refine ⟨fun k hk => ?_, fun k hk => ?_, fun k hk => ?_, h2, fun hm => ?_, fun hm => ?_, h5⟩
  · rw [hk] at a1; simp at a1; exact a1.1
  · rw [hk] at a2; simpa using a2
  · rw [hk] at a1; simp at a1; exact a1.2
  · rcases h3 with h3 | h3
    · rw [hm] at h3; cases h3
    · exact h3
  · rcases h4 with h4 | h4
    · rw [hm] at h4; cases h4
    · exact h4

theorem slots_op {vo : VOper} {t : Nat} (h : t ∈ vo.op.slots) : t ∈ vo.slots := List.mem_append_left _ h
theorem wanted_congr {vo : VOper} {env env2 : Env} (h : ∀ t ∈ vo.slots, env t = env2 t) : wantedV vo.guard env = wantedV vo.guard env2 := by
  unfold wantedV
  cases hg : vo.guard with
  | none => rfl
  | some p =>
    obtain ⟨t, b⟩ := p
    have : env t = env2 t := h t (List.mem_append_right _ (by rw [hg]; simp))
    simp only [this]

theorem GS_congr {n : Nat} {vo : VOper} {env env2 : Env} {g g' : Rows} {v : AV} (h : ∀ t ∈ vo.slots, env t = env2 t) (hv : GS X n vo env g v g') : GS X n vo env2 g v g' := by
  unfold GS at hv ⊢
  rw [← wanted_congr h]
  split at hv
  · rename_i hw; rw [if_pos hw]; exact VS_congr (fun t ht => h t (slots_op ht)) hv
  · rename_i hw; rw [if_neg hw]; exact hv

theorem GS_comm {n : Nat} {x y : VOper} {env : Env} {g g1 g2 : Rows} {v v' : AV} (F : Free x y) (h1 : GS X n x env g v g1) (h2 : GS X n y (upd env x.dst v) g1 v' g2) :
    ∃ g1', GS X n y env g v' g1' ∧ GS X n x (upd env y.dst v') g1' v g2 ∧ upd (upd env x.dst v) y.dst v' = upd (upd env y.dst v') x.dst v := by
  have hux := upd_comm (env := env) (v := v) (u := v') F.dst
  replace h2 : GS X n y env g1 v' g2 := GS_congr (upd_slot F.xy) h2
  have back : ∀ {g1'}, GS X n x env g1' v g2 → GS X n x (upd env y.dst v') g1' v g2 := fun h => GS_congr (fun t ht => (upd_slot F.yx t ht).symm) h
  unfold GS at h1 h2
  by_cases wx : wantedV x.guard env = true
  · rw [if_pos wx] at h1
    by_cases wy : wantedV y.guard env = true
    · rw [if_pos wy] at h2
      by_cases cx : x.op.cls = .write
      · have cy : y.op.cls = .pure := by
          have := F.cls; rw [cx] at this
          cases hc : y.op.cls <;> simp [clash, hc] at this ⊢
        obtain ⟨rfl, hall⟩ := VS_pure cy h2
        exact ⟨g, by unfold GS; rw [if_pos wy]; exact hall g, back (by unfold GS; rw [if_pos wx]; exact h1), hux⟩
      · by_cases cy : y.op.cls = .write
        · have cx' : x.op.cls = .pure := by
            have := F.cls; rw [cy] at this
            cases hc : x.op.cls <;> simp [clash, hc] at this ⊢
          obtain ⟨rfl, hall⟩ := VS_pure cx' h1
          exact ⟨g2, by unfold GS; rw [if_pos wy]; exact h2, back (by unfold GS; rw [if_pos wx]; exact hall g2), hux⟩
        · obtain ⟨mx, rfl, kx, allx⟩ := VS_quiet cx h1
          obtain ⟨my, rfl, ky, ally⟩ := VS_quiet cy h2
          have hne : (⟨x.site, n⟩ : Id) ≠ ⟨y.site, n⟩ := fun e => F.site (by injection e)
          refine ⟨addR g ⟨y.site, n⟩ my, ?_, back ?_, hux⟩
          · unfold GS; rw [if_pos wy]
            exact ally g (vis_hide fun h => F.hx (kx h)).symm
          · unfold GS; rw [if_pos wx, addR_comm hne]
            exact allx _ (vis_hide fun h => F.hy (ky h))
    · rw [if_neg wy] at h2
      obtain ⟨rfl, rfl⟩ := h2
      exact ⟨g, by unfold GS; rw [if_neg wy]; exact ⟨rfl, rfl⟩, back (by unfold GS; rw [if_pos wx]; exact h1), hux⟩
  · rw [if_neg wx] at h1
    obtain ⟨rfl, rfl⟩ := h1
    exact ⟨g2, h2, back (by unfold GS; rw [if_neg wx]; exact ⟨rfl, rfl⟩), hux⟩

end
end Go.Proofs.YtpbniieiinhliaaGreat.V

namespace Go.Proofs.YtpbniieiinhliaaGreat.V
open Go.RowKit

variable {P : Program} {w w' : World} {D D' D2 : Nat → Prop} {ι ι' ι2 : Names}
section
variable {hs : Nat} {X : CallP}

/-! ### Transitive edges -/

def befStep (acc : Array Nat) (o : Oper) : Nat := o.after.foldl (fun s e => if Region.binds .any e then s ||| 2 ^ e.on ||| acc.getD e.on 0 else s) 0
theorem befs_eq (ops : Array Oper) : befs ops = ops.foldl (fun acc o => acc.push (befStep acc o)) #[] := rfl

theorem befStep_bit {acc : Array Nat} {o : Oper} {i : Nat} (h : (befStep acc o).testBit i = true) : ∃ e ∈ o.after, Region.binds .any e = true ∧ (e.on = i ∨ (acc.getD e.on 0).testBit i = true) := by
  unfold befStep at h
  rw [← Array.foldl_toList] at h
  have gen : ∀ (l : List Edge) (s : Nat), (l.foldl (fun s e => if Region.binds .any e then s ||| 2 ^ e.on ||| acc.getD e.on 0 else s) s).testBit i = true → s.testBit i = true ∨ ∃ e ∈ l, Region.binds .any e = true ∧ (e.on = i ∨ (acc.getD e.on 0).testBit i = true) := by
    intro l
    induction l with
    | nil => intro s h; exact .inl h
    | cons e r ih =>
      intro s h
      rw [List.foldl_cons] at h
      rcases ih _ h with h | ⟨e', he', h'⟩
      · by_cases hb : Region.binds .any e = true
        · rw [if_pos hb] at h
          simp only [Nat.testBit_or, Bool.or_eq_true] at h
          rcases h with (h | h) | h
          · exact .inl h
          · refine .inr ⟨e, by simp, hb, .inl ?_⟩
            rw [Nat.testBit_two_pow] at h
            simpa using h
          · exact .inr ⟨e, by simp, hb, .inr h⟩
        · rw [if_neg hb] at h; exact .inl h
      · exact .inr ⟨e', List.mem_cons_of_mem _ he', h'⟩
  rcases gen _ _ h with h | ⟨e, he, h⟩
  · simp at h
  · exact ⟨e, Array.mem_toList_iff.1 he, h⟩

theorem befs_bit {ops : Array Oper} {j i : Nat} (h : ((befs ops).getD j 0).testBit i = true) : ∃ o, ops[j]? = some o ∧ ∃ e ∈ o.after, Region.binds .any e = true ∧ (e.on = i ∨ ((befs ops).getD e.on 0).testBit i = true) := by
  have key : ∀ (l pre : List Oper) (acc : Array Nat), acc.size = pre.length → (∀ j i, (acc.getD j 0).testBit i = true → ∃ o, pre[j]? = some o ∧ ∃ e ∈ o.after, Region.binds .any e = true ∧ (e.on = i ∨ (acc.getD e.on 0).testBit i = true)) →
      ∀ j i, ((l.foldl (fun acc o => acc.push (befStep acc o)) acc).getD j 0).testBit i = true → ∃ o, (pre ++ l)[j]? = some o ∧ ∃ e ∈ o.after, Region.binds .any e = true ∧ (e.on = i ∨ ((l.foldl (fun acc o => acc.push (befStep acc o)) acc).getD e.on 0).testBit i = true) := by
    intro l
    induction l with
    | nil => intro pre acc _ h j i hb; simpa using h j i hb
    | cons o r ih =>
      intro pre acc hsz h j i hb
      have old : ∀ k, k < acc.size → (acc.push (befStep acc o)).getD k 0 = acc.getD k 0 := fun k hk => by
        simp only [Array.getD_eq_getD_getElem?, Array.getElem?_push]
        rw [if_neg (by omega)]
      have big : ∀ k, acc.size ≤ k → acc.getD k 0 = 0 := fun k hk => by simp [Array.getElem?_eq_none hk]
      have lift : ∀ k i, (acc.getD k 0).testBit i = true → ((acc.push (befStep acc o)).getD k 0).testBit i = true := fun k i hk => by
        by_cases hlt : k < acc.size
        · rw [old k hlt]; exact hk
        · rw [big k (by omega)] at hk; simp at hk
      have := ih (pre ++ [o]) (acc.push (befStep acc o)) (by simp [hsz]) (fun j i hb => by
        by_cases hlt : j < acc.size
        · rw [old j hlt] at hb
          obtain ⟨o', ho', e, he, hbi, h2⟩ := h j i hb
          refine ⟨o', by rw [List.getElem?_append_left (by omega)]; exact ho', e, he, hbi, ?_⟩
          rcases h2 with h2 | h2
          · exact .inl h2
          · exact .inr (lift _ _ h2)
        · by_cases hj : j = acc.size
          · subst hj
            have e0 : (acc.push (befStep acc o)).getD acc.size 0 = befStep acc o := by simp
            rw [e0] at hb
            obtain ⟨e, he, hbi, h2⟩ := befStep_bit hb
            refine ⟨o, by rw [List.getElem?_append_right (by omega), hsz]; simp, e, he, hbi, ?_⟩
            rcases h2 with h2 | h2
            · exact .inl h2
            · exact .inr (lift _ _ h2)
          · have : (acc.push (befStep acc o)).getD j 0 = 0 := by
              simp only [Array.getD_eq_getD_getElem?]
              rw [Array.getElem?_eq_none (by simp; omega)]; rfl
            rw [this] at hb; simp at hb) j i (by simpa using hb)
      simpa using this
  rw [befs_eq, ← Array.foldl_toList] at h ⊢
  have := key ops.toList [] #[] rfl (fun j i h => by simp at h) j i h
  simpa using this

/-- Whatever is listed, all that it waits for is. -/
def DC (ops : Array Oper) (listed : Array Bool) : Prop := ∀ k i, listed.getD k false = true → ((befs ops).getD k 0).testBit i = true → listed.getD i false = true

theorem ready_bits {ops : Array Oper} {listed : Array Bool} (h : DC ops listed) {j : Nat} (hj : j ∈ Region.ready .any ops listed) : ∀ i, ((befs ops).getD j 0).testBit i = true → listed.getD i false = true := by
  intro i hb
  obtain ⟨_, o, ho, hall⟩ := mem_ready.1 hj
  obtain ⟨o', ho', e, he, hbi, h2⟩ := befs_bit hb
  rw [ho] at ho'; injection ho' with ho'; subst ho'
  have hl := hall e he hbi
  rcases h2 with h2 | h2
  · rw [← h2]; exact hl
  · exact h _ _ hl h2
theorem DC.list {ops : Array Oper} {listed : Array Bool} (h : DC ops listed) {j : Nat} (hj : j ∈ Region.ready .any ops listed) : DC ops (listed.setIfInBounds j true) := by
  intro k i hk hb
  by_cases hkj : k = j
  · subst hkj; exact getD_set_true (ready_bits h hj i hb)
  · rw [getD_set_ne false (fun e => hkj e.symm)] at hk
    exact getD_set_true (h k i hk hb)
theorem ready_not {ops : Array Oper} {listed : Array Bool} {j : Nat} (hj : j ∈ Region.ready .any ops listed) : listed.getD j false = false := by
  have h0 := (mem_ready.1 hj).1
  rcases Nat.lt_or_ge j listed.size with h | h
  · simp [h] at h0 ⊢; exact h0
  · simp [Array.getElem?_eq_none h] at h0

/-- Any order, in the small language. -/
def vAny (X : CallP) (n : Nat) (ops : Array Oper) (vl : List VOper) (K : Env → Rows → Prop) : Nat → Array Bool → Env → Rows → Prop
  | 0, listed, env, g => Region.ready .any ops listed = [] ∧ K env g
  | f + 1, listed, env, g => (Region.ready .any ops listed = [] → K env g) ∧ ∀ i ∈ Region.ready .any ops listed, ∃ vo, vl[i]? = some vo ∧ ∃ v g', GS X n vo env g v g' ∧ vAny X n ops vl K f (listed.setIfInBounds i true) (upd env vo.dst v) g'

theorem drawOk_free {ops : Array Oper} {vl : List VOper} (h : drawOk ops vl (befs ops) = true) {i j : Nat} {x y : VOper} (hi : vl[i]? = some x) (hj : vl[j]? = some y) (hij : i ≠ j) (h1 : ((befs ops).getD j 0).testBit i = false) (h2 : ((befs ops).getD i 0).testBit j = false) : Free x y := by
  unfold drawOk at h
  simp only [Bool.and_eq_true, List.all_eq_true] at h
  obtain ⟨_, h⟩ := h
  have mem : ∀ (k : Nat) (z : VOper), vl[k]? = some z → (z, k) ∈ vl.zipIdx := fun k z hk => by
    rw [List.mem_iff_getElem?]
    exact ⟨k, by simp [List.getElem?_zipIdx, hk]⟩
  rcases Nat.lt_or_gt_of_ne hij with hlt | hgt
  · have := h _ (mem j y hj) _ (mem i x hi)
    simp only [hlt, decide_true, Bool.not_true, Bool.false_or, h1] at this
    exact freeV_free this
  · have := h _ (mem i x hi) _ (mem j y hj)
    simp only [hgt, decide_true, Bool.not_true, Bool.false_or, h2] at this
    exact (freeV_free this).symm

theorem vAny_first {n : Nat} {ops : Array Oper} {vl : List VOper} {K : Env → Rows → Prop} (hok : drawOk ops vl (befs ops) = true) (hlen : vl.length = ops.size) {i : Nat} {vi : VOper} (hi : vl[i]? = some vi) {v : AV} : ∀ (fuel : Nat) (listed : Array Bool) (env : Env) (g g1 : Rows),
    DC ops listed → i ∈ Region.ready .any ops listed → GS X n vi env g v g1 → vAny X n ops vl K fuel (listed.setIfInBounds i true) (upd env vi.dst v) g1 → vAny X n ops vl K (fuel + 1) listed env g := by
  intro fuel
  induction fuel with
  | zero =>
    intro listed env g g1 _ hr hG H
    refine ⟨fun h => (by rw [h] at hr; cases hr), fun j hj => ?_⟩
    by_cases hji : j = i
    · subst hji; exact ⟨vi, hi, v, g1, hG, H⟩
    · have := ready_mono hj hji
      rw [H.1] at this; cases this
  | succ fuel ih =>
    intro listed env g g1 hdc hr hG H
    refine ⟨fun h => (by rw [h] at hr; cases hr), fun j hj => ?_⟩
    by_cases hji : j = i
    · subst hji; exact ⟨vi, hi, v, g1, hG, H⟩
    · obtain ⟨vj, hvj, v', g2, hG2, H2⟩ := H.2 j (ready_mono hj hji)
      have b1 : ((befs ops).getD j 0).testBit i = false := by
        cases hb : ((befs ops).getD j 0).testBit i with
        | false => rfl
        | true => have := ready_bits hdc hj i hb; rw [ready_not hr] at this; cases this
      have b2 : ((befs ops).getD i 0).testBit j = false := by
        cases hb : ((befs ops).getD i 0).testBit j with
        | false => rfl
        | true => have := ready_bits hdc hr j hb; rw [ready_not hj] at this; cases this
      have F := drawOk_free hok hi hvj (fun e => hji e.symm) b1 b2
      obtain ⟨g1', q1, q2, q3⟩ := GS_comm F hG hG2
      refine ⟨vj, hvj, v', g1', q1, ih _ _ _ g2 (hdc.list hj) (ready_mono hr (fun e => hji e.symm)) q2 ?_⟩
      rw [← q3, Array.setIfInBounds_comm _ _ hji]
      exact H2

theorem VS_q {n : Nat} {vo : VOper} {env : Env} {g : Rows} {v : AV} {mr : Option Row} (h : qop vo.op (evO env) (vis vo.hid n g) ⟨vo.site, n⟩ = some (v, mr)) : VS X n vo env g v (addR g ⟨vo.site, n⟩ mr) := by
  unfold VS
  split
  · rename_i hop; rw [hop] at h; simp [qop] at h
  · rename_i hop; rw [hop] at h; simp [qop] at h
  · rename_i hop; rw [hop] at h; simp [qop] at h
  · rename_i hop; rw [hop] at h; simp [qop] at h
  · rename_i hop; rw [hop] at h; simp [qop] at h
  · rename_i hop; rw [hop] at h; simp [qop] at h
  · exact ⟨mr, h, rfl⟩
theorem VS_e {n : Nat} {vo : VOper} {env : Env} {g g' : Rows} {v : AV} (h : eop vo.op (evO env) g ⟨vo.site, n⟩ = some (v, g')) : VS X n vo env g v g' := by
  unfold VS
  split
  · rename_i hop; rw [hop] at h; simp [eop] at h
  · rename_i hop; rw [hop] at h; simp [eop] at h
  · exact h
  · exact h
  · exact h
  · exact h
  · rename_i n1 n2 n3 n4 n5 n6
    exfalso
    unfold eop at h
    split at h
    · rename_i hh; exact n3 _ _ _ hh
    · rename_i hh; exact n4 _ _ _ hh
    · rename_i hh; exact n5 _ _ _ hh
    · rename_i hh; exact n6 _ _ hh
    · simp at h

theorem vop_VS {vo : VOper} {env : Env} {σ : Store} {next : AV → Store → Prop} (hv : vop X true vo env σ next) : ∃ v g', VS X σ.next vo env σ.get v g' ∧ next v ⟨g', σ.next⟩ := by
  unfold vop at hv
  split at hv
  · rename_i f args hop
    rcases hv with ⟨r, hP, hn⟩ | ⟨h, _⟩ | ⟨hs, sz, rows, hM, hn⟩
    · exact ⟨r, σ.get, by unfold VS; rw [hop]; exact .inl ⟨hP, rfl⟩, hn⟩
    · cases h
    · exact ⟨_, _, by unfold VS; rw [hop]; exact .inr ⟨hs, sz, rows, hM, rfl, rfl⟩, hn⟩
  · rename_i x args hop
    split at hv
    · rename_i f caps hx
      rcases hv with ⟨r, hP, hn⟩ | ⟨h, _⟩ | ⟨hs, sz, rows, hM, hn⟩
      · exact ⟨r, σ.get, by unfold VS; rw [hop]; exact ⟨f, caps, hx, .inl ⟨hP, rfl⟩⟩, hn⟩
      · cases h
      · exact ⟨_, _, by unfold VS; rw [hop]; exact ⟨f, caps, hx, .inr ⟨hs, sz, rows, hM, rfl, rfl⟩⟩, hn⟩
    · exact hv.elim
  · split at hv
    · rename_i v g h; exact ⟨v, g, VS_e h, hv⟩
    · exact hv.elim
  · split at hv
    · rename_i v g h; exact ⟨v, g, VS_e h, hv⟩
    · exact hv.elim
  · split at hv
    · rename_i v g h; exact ⟨v, g, VS_e h, hv⟩
    · exact hv.elim
  · split at hv
    · rename_i v g h; exact ⟨v, g, VS_e h, hv⟩
    · exact hv.elim
  · split at hv
    · rename_i v r h; exact ⟨v, _, VS_q h, hv⟩
    · rename_i v h; exact ⟨v, _, VS_q h, hv⟩
    · exact hv.elim

theorem vAny_lex {ops : Array Oper} {vl : List VOper} {K : Env → Store → Prop} {n : Nat} (hok : drawOk ops vl (befs ops) = true) (hlen : vl.length = ops.size) : ∀ (r : List VOper) (k : Nat) (listed : Array Bool) (env : Env) (g : Rows),
    (∀ j, r[j]? = vl[k + j]?) → listed.size = ops.size → (∀ i, i < ops.size → listed[i]? = some (decide (i < k))) → k + r.length = ops.size → DC ops listed → wpOps X true r K env ⟨g, n⟩ → vAny X n ops vl (fun env g => K env ⟨g, n + 1⟩) r.length listed env g
  | [], k, listed, env, g, _, hsz, hl, hk, _, hv => by
    refine ⟨?_, hv⟩
    rw [List.eq_nil_iff_forall_not_mem]
    intro j hj
    obtain ⟨h0, o, ho, _⟩ := mem_ready.1 hj
    have hlt : j < ops.size := (Array.getElem?_eq_some_iff.1 ho).1
    have := hl j hlt
    simp at hk
    simp [this, show j < k by omega] at h0
  | vo :: r, k, listed, env, g, hr, hsz, hl, hk, hdc, hv => by
    simp only [List.length_cons] at hk
    have hvo : vl[k]? = some vo := by simpa using (hr 0).symm
    have hkl : k < ops.size := by omega
    have hready : k ∈ Region.ready .any ops listed := by
      rw [mem_ready]
      refine ⟨by simp [hl k hkl], ops[k], Array.getElem?_eq_getElem hkl, fun e he hb => ?_⟩
      unfold drawOk edgesOk at hok
      simp only [Bool.and_eq_true, List.all_eq_true] at hok
      have hm : (ops[k], k) ∈ ops.toList.zipIdx := by
        rw [List.mem_iff_getElem?]
        exact ⟨k, by simp [List.getElem?_zipIdx, hkl]⟩
      have := hok.1 _ hm
      rw [Array.all_eq_true_iff_forall_mem] at this
      have := this e he
      simp only [hb, Bool.not_true, Bool.false_or, decide_eq_true_eq] at this
      simp [hl e.on (by omega), this]
    have hGS : ∃ v g', GS X n vo env g v g' ∧ wpOps X true r K (upd env vo.dst v) ⟨g', n⟩ := by
      unfold wpOps at hv
      unfold GS
      split at hv
      · rename_i hw
        simp only [hw, if_true]
        exact vop_VS hv
      · rename_i hw
        simp only [hw]
        exact ⟨.undef, g, ⟨rfl, rfl⟩, hv⟩
    obtain ⟨v, g', h1, h2⟩ := hGS
    refine vAny_first hok hlen hvo r.length listed env g g' hdc hready h1 ?_
    refine vAny_lex hok hlen r (k + 1) _ _ _ (fun j => by have := hr (j + 1); simpa [Nat.add_assoc, Nat.add_comm 1 j] using this) (by simp [hsz]) (fun i hi => ?_) (by omega) (hdc.list hready) h2
    by_cases hik : i = k
    · subst hik; simp [hsz, hkl]
    · rw [Array.getElem?_setIfInBounds_ne (fun e => hik e.symm), hl i hi]
      congr 1
      have : (i < k) = (i < k + 1) := by apply propext; omega
      simp [this]

theorem allM_get {f : Nat → Oper → Option VOper} : ∀ {l : List Oper} {vl : List VOper} {j : Nat}, allM f l j = some vl → vl.length = l.length ∧ ∀ (i : Nat) (o : Oper), l[i]? = some o → ∃ vo, vl[i]? = some vo ∧ f (j + i) o = some vo
  | [], vl, j, h => by simp [allM] at h; subst h; simp
  | o :: l, vl, j, h => by
    simp only [allM, Option.bind_eq_bind, Option.bind_eq_some_iff, Option.pure_def, Option.some.injEq] at h
    obtain ⟨vo, hvo, vl', hvl, rfl⟩ := h
    obtain ⟨h1, h2⟩ := allM_get hvl
    refine ⟨by simp [h1], fun i o' hi => ?_⟩
    cases i with
    | zero => simp at hi; subst hi; exact ⟨vo, rfl, hvo⟩
    | succ i =>
      simp at hi
      obtain ⟨q, hq, hf⟩ := h2 i o' hi
      exact ⟨q, by simpa using hq, by rw [← hf]; congr 1; omega⟩

theorem any_sound {ops : Array Oper} {vl : List VOper} {nt site0 : Nat} {draw mk : Bool} {bs : Array Nat} {hidden : List (Nat × Bool)} {n : Nat} {K : Env → Rows → Prop} {Q : Exit → Act → World → Prop} (hall : allM (cOper P ops nt site0 draw mk bs hidden) ops.toList 0 = some vl) :
    ∀ (fuel : Nat) (listed : Array Bool) (env : Env) (g : Rows) (a : Act) (w : World) (D : Nat → Prop) (ι : Names) (U : Nat → Prop), vAny (Sound P) n ops vl K fuel listed env g → Sim P hs D ι g w → Used ι n U → (∀ s, U s → ∃ i, s = site0 + i ∧ listed.getD i false = true) → EnvRep P w D ι env a → a.tmps.size = nt →
    (∀ env' g' a' w' D' ι' U', K env' g' → Step hs D ι w D' ι' w' → Sim P hs D' ι' g' w' → Used ι' n U' → EnvRep P w' D' ι' env' a' → a'.tmps.size = nt → a'.defers = a.defers → Q .normal a' w') → wpAny P .any ops Q fuel listed a w := by
  intro fuel
  induction fuel with
  | zero => intro listed env g a w D ι U h S Us hU E hsz hQ; exact ⟨h.1, hQ env g a w D ι U h.2 (Step.refl _ _ _ _) S Us E hsz rfl⟩
  | succ fuel ih =>
    intro listed env g a w D ι U h S Us hU E hsz hQ
    refine ⟨fun hr => hQ env g a w D ι U (h.1 hr) (Step.refl _ _ _ _) S Us E hsz rfl, fun i hi => ?_⟩
    obtain ⟨vo, hvo, v, g', hG, hrest⟩ := h.2 i hi
    obtain ⟨_, o, ho, _⟩ := mem_ready.1 hi
    obtain ⟨vo', hvo', hco⟩ := (allM_get hall).2 i o (by simpa using ho)
    rw [hvo] at hvo'; injection hvo' with hvo'; subst hvo'
    rw [Nat.zero_add] at hco
    obtain ⟨hc, hd, hsite, hdst, hg⟩ := cOper_inv hco
    have hw := wanted_eq (ops := ops) (vo := vo) E hg
    have hUi : ¬ U vo.site := fun hu => by
      obtain ⟨i', he, hl⟩ := hU _ hu
      have : i' = i := by omega
      subst this
      rw [ready_not hi] at hl; cases hl
    have hisz : i < listed.size := by
      have h0 := (mem_ready.1 hi).1
      rcases Nat.lt_or_ge i listed.size with h | h
      · exact h
      · simp [Array.getElem?_eq_none h] at h0
    unfold wpOp
    simp only [ho]
    rw [← hw]
    unfold GS at hG
    by_cases hwt : wantedV vo.guard env = true
    · rw [if_pos hwt]
      rw [if_pos hwt] at hG
      refine .inl (VS_sound hc hG S Us hUi E fun a' w' ⟨u, D', ι', ha, T, S', hR, U'⟩ => ?_)
      subst ha
      refine ih _ _ _ _ w' D' ι' _ hrest S' U' (fun s hs' => ?_) (by rw [hd]; exact env_put (env_step E T) hR hdst hsz) (by rw [put_size]; exact hsz) fun env' g2 a2 w2 D2 ι2 U2 hk T2 S2 U2' E2 hz2 hdf => hQ env' g2 a2 w2 D2 ι2 U2 hk (T.trans T2) S2 U2' E2 hz2 (hdf.trans (put_defers _ _ _))
      rcases hs' with h | h
      · obtain ⟨i', he, hl⟩ := hU _ h
        exact ⟨i', he, getD_set_true hl⟩
      · exact ⟨i, by rw [h, hsite], by simp [hisz]⟩
    · rw [if_neg hwt]
      rw [if_neg hwt] at hG
      obtain ⟨rfl, rfl⟩ := hG
      refine ih _ _ _ _ w D ι U hrest S Us (fun s hs' => ?_) (by rw [hd]; exact env_put E Rep.undef hdst hsz) (by rw [put_size]; exact hsz) fun env' g2 a2 w2 D2 ι2 U2 hk T2 S2 U2' E2 hz2 hdf => hQ env' g2 a2 w2 D2 ι2 U2 hk T2 S2 U2' E2 hz2 (hdf.trans (put_defers _ _ _))
      obtain ⟨i', he, hl⟩ := hU _ hs'
      exact ⟨i', he, getD_set_true hl⟩

end
end Go.Proofs.YtpbniieiinhliaaGreat.V

namespace Go.Proofs.YtpbniieiinhliaaGreat.V
open Go.RowKit

variable {P : Program} {w w' : World} {D D' D2 : Nat → Prop} {ι ι' ι2 : Names}
section
variable {hs : Nat} {X : CallP}

def MonoC (X : CallP) : Prop := ∀ f args σ K K', (∀ r σ', K r σ' → K' r σ') → X f args σ K → X f args σ K'
theorem Sound_mono : MonoC (Sound P) := fun _ _ _ _ _ hK h hs D ι w vs S U A =>
  (h hs D ι w vs S U A).mono fun _ _ ⟨r, g', n', D', ι', u, he, hk, rest⟩ => ⟨r, g', n', D', ι', u, he, hK _ _ hk, rest⟩

/-- One operation, then the rest. -/
def step (X : CallP) (vo : VOper) (N : Env → Store → Prop) (env : Env) (σ : Store) : Prop :=
  if wantedV vo.guard env then vop X false vo env σ fun v σ' => N (upd env vo.dst v) σ' else N (upd env vo.dst .undef) σ
theorem callW_next (hK : MonoC X) {draw : Bool} {hid : List Nat} {site f : Nat} {args : List AV} {σ : Store} {n n' : AV → Store → Prop} (hn : ∀ v σ', n v σ' → n' v σ') (hp : callW X draw hid site f args σ n) : callW X draw hid site f args σ n' := by
  rcases hp with ⟨r, h1, h2⟩ | ⟨h1, h2⟩ | ⟨h1, sz, rows, h2, h3⟩
  · exact .inl ⟨r, h1, hn _ _ h2⟩
  · exact .inr (.inl ⟨h1, hK _ _ _ _ _ hn h2⟩)
  · exact .inr (.inr ⟨h1, sz, rows, h2, hn _ _ h3⟩)
theorem vop_next (hK : MonoC X) {draw : Bool} {o : VOper} {env : Env} {σ : Store} {n n' : AV → Store → Prop} (hn : ∀ v σ', n v σ' → n' v σ') (hp : vop X draw o env σ n) : vop X draw o env σ n' := by
  unfold vop at hp ⊢
  split at hp
  · exact callW_next hK hn hp
  · split at hp
    · exact callW_next hK hn hp
    · exact hp.elim
  · split at hp
    · exact hn _ _ hp
    · exact hp.elim
  · split at hp
    · exact hn _ _ hp
    · exact hp.elim
  · split at hp
    · exact hn _ _ hp
    · exact hp.elim
  · split at hp
    · exact hn _ _ hp
    · exact hp.elim
  · split at hp
    · exact hn _ _ hp
    · exact hn _ _ hp
    · exact hp.elim
theorem step_mono (hK : MonoC X) {vo : VOper} {N N' : Env → Store → Prop} (h : ∀ e s, N e s → N' e s) {env : Env} {σ : Store} (hp : step X vo N env σ) : step X vo N' env σ := by
  unfold step at hp ⊢
  split at hp
  · rename_i hw; rw [if_pos hw]; exact vop_next hK (fun v σ' => h _ _) hp
  · rename_i hw; rw [if_neg hw]; exact h _ _ hp

theorem vop_congr {env env2 : Env} {vo : VOper} {σ : Store} {n : AV → Store → Prop} (h : ∀ t ∈ vo.op.slots, env t = env2 t) (hv : vop X false vo env σ n) : vop X false vo env2 σ n := by
  unfold vop at hv ⊢
  split at hv
  · rename_i f args hop
    rw [hop] at h
    simp only [VOp.slots] at h
    rw [← map_congr h]; exact hv
  · rename_i x args hop
    rw [hop] at h
    simp only [VOp.slots, List.mem_append] at h
    rw [← map_congr (l := args) fun t ht => h t (.inr ht), ← evO_congr (x := x) fun t ht => h t (.inl ht)]; exact hv
  · rw [← eop_congr h]; exact hv
  · rw [← eop_congr h]; exact hv
  · rw [← eop_congr h]; exact hv
  · rw [← eop_congr h]; exact hv
  · rw [← qop_congr h]; exact hv

theorem step_GS {x : VOper} (hq : quietB x = true) {N : Env → Store → Prop} {env : Env} {σ : Store} : step X x N env σ ↔ ∃ v g', GS X σ.next x env σ.get v g' ∧ N (upd env x.dst v) ⟨g', σ.next⟩ := by
  unfold quietB at hq
  simp only [Bool.and_eq_true, Bool.not_eq_true', bne_iff_ne] at hq
  obtain ⟨hq1, hq2⟩ := hq
  unfold step GS
  by_cases hw : wantedV x.guard env = true
  · rw [if_pos hw]
    simp only [hw, if_true]
    unfold vop
    split
    · rename_i hop; simp [hop, VOp.isCall] at hq1
    · rename_i hop; simp [hop, VOp.isCall] at hq1
    · rename_i hop; simp [hop, VOp.cls] at hq2
    · rename_i hop; simp [hop, VOp.cls] at hq2
    · rename_i hop; simp [hop, VOp.cls] at hq2
    · rename_i hop; simp [hop, VOp.cls] at hq2
    · rename_i n1 n2 n3 n4 n5 n6
      have hVS : ∀ v g', VS X σ.next x env σ.get v g' ↔ ∃ mr, qop x.op (evO env) (vis x.hid σ.next σ.get) ⟨x.site, σ.next⟩ = some (v, mr) ∧ g' = addR σ.get ⟨x.site, σ.next⟩ mr := fun v g' => by
        unfold VS
        split
        · rename_i hh; exact (n1 _ _ hh).elim
        · rename_i hh; exact (n2 _ _ hh).elim
        · rename_i hh; exact (n3 _ _ _ hh).elim
        · rename_i hh; exact (n4 _ _ _ hh).elim
        · rename_i hh; exact (n5 _ _ _ hh).elim
        · rename_i hh; exact (n6 _ _ hh).elim
        · exact Iff.rfl
      simp only [hVS]
      cases hz : qop x.op (evO env) (vis x.hid σ.next σ.get) ⟨x.site, σ.next⟩ with
      | none =>
        exact ⟨fun h => h.elim, fun ⟨v, g', ⟨mr, h, _⟩, _⟩ => by cases h⟩
      | some p =>
        obtain ⟨v, mr⟩ := p
        have key : ∀ (v' : AV) (g' : Rows), (∃ mr', some (v, mr) = some (v', mr') ∧ g' = addR σ.get ⟨x.site, σ.next⟩ mr') ↔ v' = v ∧ g' = addR σ.get ⟨x.site, σ.next⟩ mr := fun v' g' => by
          constructor
          · rintro ⟨mr', h1, h2⟩
            injection h1 with h1; injection h1 with h1 h3
            subst h1; subst h3
            exact ⟨rfl, h2⟩
          · rintro ⟨rfl, rfl⟩; exact ⟨mr, rfl, rfl⟩
        have fin : (∃ v' g', (∃ mr', some (v, mr) = some (v', mr') ∧ g' = addR σ.get ⟨x.site, σ.next⟩ mr') ∧ N (upd env x.dst v') ⟨g', σ.next⟩) ↔ N (upd env x.dst v) ⟨addR σ.get ⟨x.site, σ.next⟩ mr, σ.next⟩ := by
          constructor
          · rintro ⟨v', g', h, hN⟩
            obtain ⟨rfl, rfl⟩ := (key v' g').1 h
            exact hN
          · intro hN; exact ⟨v, _, (key _ _).2 ⟨rfl, rfl⟩, hN⟩
        cases mr with
        | none => exact fin.symm
        | some r => exact fin.symm
  · rw [if_neg hw]
    simp only [if_neg hw]
    exact ⟨fun h => ⟨_, _, ⟨rfl, rfl⟩, h⟩, fun ⟨v, g', ⟨hv, hg⟩, h⟩ => by rw [hv, hg] at h; exact h⟩
/-- A pure one. -/
def xv (x : VOper) (env : Env) (v : AV) : Prop := if wantedV x.guard env then qop x.op (evO env) (fun _ => none) ⟨0, 0⟩ = some (v, none) else v = .undef
theorem pure_quiet {x : VOper} (hp : x.op.cls = .pure) : quietB x = true := by
  unfold quietB
  rw [hp]
  cases hc : x.op <;> simp [hc, VOp.cls] at hp <;> rfl
theorem step_pure {x : VOper} (hp : x.op.cls = .pure) {N : Env → Store → Prop} {env : Env} {σ : Store} : step X x N env σ ↔ ∃ v, xv x env v ∧ N (upd env x.dst v) σ := by
  rw [step_GS (pure_quiet hp)]
  unfold GS xv
  by_cases hw : wantedV x.guard env = true
  · simp only [hw, if_true]
    constructor
    · rintro ⟨v, g', h, hN⟩
      obtain ⟨rfl, hall⟩ := VS_pure hp h
      refine ⟨v, ?_, hN⟩
      unfold VS at h
      split at h
      · rename_i hop; rw [hop] at hp; simp [VOp.cls] at hp
      · rename_i hop; rw [hop] at hp; simp [VOp.cls] at hp
      · rename_i hop; rw [hop] at hp; simp [VOp.cls] at hp
      · rename_i hop; rw [hop] at hp; simp [VOp.cls] at hp
      · rename_i hop; rw [hop] at hp; simp [VOp.cls] at hp
      · rename_i hop; rw [hop] at hp; simp [VOp.cls] at hp
      · obtain ⟨mr, hq, _⟩ := h
        have hmr : mr = none := by
          cases mr with
          | none => rfl
          | some r => have := qop_make hq; simp [makesB, hp] at this
        subst hmr
        rw [← qop_pure (g := vis x.hid σ.next σ.get) (id := ⟨x.site, σ.next⟩) hp]; exact hq
    · rintro ⟨v, h, hN⟩
      exact ⟨v, σ.get, VS_q (mr := none) (by rw [qop_pure (g2 := fun _ => none) (id2 := ⟨0, 0⟩) hp]; exact h), hN⟩
  · simp only [if_neg hw]
    exact ⟨fun ⟨v, g', ⟨hv, hg⟩, h⟩ => ⟨v, hv, by rw [hg] at h; exact h⟩, fun ⟨v, hv, h⟩ => ⟨v, σ.get, ⟨hv, rfl⟩, h⟩⟩
theorem xv_congr {x : VOper} {env env2 : Env} {v : AV} (h : ∀ t ∈ x.slots, env t = env2 t) (hv : xv x env v) : xv x env2 v := by
  unfold xv at hv ⊢
  rw [← wanted_congr h, ← qop_congr fun t ht => h t (slots_op ht)]; exact hv

structure Apart (x y : VOper) : Prop where
  xy : ∀ k, x.dst = some k → k ∉ y.slots
  yx : ∀ k, y.dst = some k → k ∉ x.slots
  dst : ∀ k, x.dst = some k → y.dst ≠ some k
theorem vapart_apart {x y : VOper} (h : vapart x y = true) : Apart x y := by
  unfold vapart at h
  simp only [Bool.and_eq_true] at h
  obtain ⟨a1, a2⟩ := h
  refine ⟨fun k hk => ?_, fun k hk => ?_, fun k hk => ?_⟩
  · rw [hk] at a1; simp at a1; exact a1.1
  · rw [hk] at a2; simpa using a2
  · rw [hk] at a1; simp at a1; exact a1.2
theorem freeT_inv {x y : VOper} (h : freeT x y = true) : (Apart x y ∧ x.op.cls = .pure) ∨ (Free x y ∧ quietB x = true ∧ quietB y = true) := by
  unfold freeT at h
  simp only [Bool.or_eq_true, Bool.and_eq_true, beq_iff_eq] at h
  rcases h with ⟨h1, h2⟩ | ⟨⟨h1, h2⟩, h3⟩
  · exact .inl ⟨vapart_apart h1, h2⟩
  · exact .inr ⟨freeV_free h1, h2, h3⟩
theorem freeT_quiet {x y : VOper} (h : freeT x y = true) : quietB x = true := by
  rcases freeT_inv h with h | h
  · exact pure_quiet h.2
  · exact h.2.1

theorem step_swap (hK : MonoC X) {x y : VOper} (hf : freeT x y = true) {N : Env → Store → Prop} {env : Env} {σ : Store} (h : step X x (fun e s => step X y N e s) env σ) : step X y (fun e s => step X x N e s) env σ := by
  rcases freeT_inv hf with ⟨F, hp⟩ | ⟨F, hx, hy⟩
  · rw [step_pure hp] at h
    obtain ⟨v, hx, h⟩ := h
    have hux := fun (v' : AV) => upd_comm (env := env) (v := v) (u := v') F.dst
    have hsl := upd_slot (env := env) (v := v) F.xy
    have back : ∀ (v' : AV), xv x (upd env y.dst v') v := fun v' => xv_congr (fun t ht => (upd_slot F.yx t ht).symm) hx
    unfold step at h ⊢
    rw [wanted_congr hsl] at h
    split at h
    · rename_i hw
      rw [if_pos hw]
      refine vop_next hK (fun v' σ' hN => ?_) (vop_congr (fun t ht => hsl t (slots_op ht)) h)
      rw [hux] at hN
      exact (step_pure hp).2 ⟨v, back v', hN⟩
    · rename_i hw
      rw [if_neg hw]
      rw [hux] at h
      exact (step_pure hp).2 ⟨v, back _, h⟩
  · rw [step_GS hx] at h
    obtain ⟨v, g1, h1, h⟩ := h
    rw [step_GS hy] at h
    obtain ⟨v', g2, h2, h⟩ := h
    obtain ⟨g1', q1, q2, q3⟩ := GS_comm F h1 h2
    rw [q3] at h
    exact (step_GS hy).2 ⟨v', g1', q1, (step_GS hx).2 ⟨v, g2, q2, h⟩⟩

/-- Any order. -/
def wAny (X : CallP) (ops : Array Oper) (vl : List VOper) (K : Env → Store → Prop) : Nat → Array Bool → Env → Store → Prop
  | 0, listed, env, σ => Region.ready .any ops listed = [] ∧ K env ⟨σ.get, σ.next + 1⟩
  | f + 1, listed, env, σ => (Region.ready .any ops listed = [] → K env ⟨σ.get, σ.next + 1⟩) ∧ ∀ i ∈ Region.ready .any ops listed, ∃ vo, vl[i]? = some vo ∧ step X vo (fun e s => wAny X ops vl K f (listed.setIfInBounds i true) e s) env σ

theorem firstT_set {ops : Array Oper} {vl : List VOper} {bs : Array Nat} {listed : Array Bool} {i : Nat} (h : firstT ops vl bs listed i = true) (j : Nat) : firstT ops vl bs (listed.setIfInBounds j true) i = true := by
  unfold firstT at h ⊢
  split at h
  · rename_i x hx
    simp only [List.all_eq_true, Bool.or_eq_true] at h ⊢
    intro k hk
    rcases h k hk with ((h | h) | h) | h
    · exact .inl (.inl (.inl (getD_set_true h)))
    · exact .inl (.inl (.inr h))
    · exact .inl (.inr h)
    · exact .inr h
  · cases h

theorem firstT_free {ops : Array Oper} {vl : List VOper} {listed : Array Bool} {i j : Nat} {vi : VOper} (hdc : DC ops listed) (h : firstT ops vl (befs ops) listed i = true) (hi : vl[i]? = some vi) (hr : i ∈ Region.ready .any ops listed) (hj : j ∈ Region.ready .any ops listed) (hji : j ≠ i) : ∃ vj, vl[j]? = some vj ∧ freeT vi vj = true := by
  unfold firstT at h
  rw [hi] at h
  simp only [List.all_eq_true, Bool.or_eq_true, beq_iff_eq] at h
  obtain ⟨_, o, ho, _⟩ := mem_ready.1 hj
  rcases h j (List.mem_range.2 (Array.getElem?_eq_some_iff.1 ho).1) with ((h | h) | h) | h
  · rw [ready_not hj] at h; cases h
  · exact absurd h hji
  · have := ready_bits hdc hj i h
    rw [ready_not hr] at this; cases this
  · split at h
    · rename_i y hy; exact ⟨y, hy, h⟩
    · cases h

theorem wAny_first (hK : MonoC X) {ops : Array Oper} {vl : List VOper} {K : Env → Store → Prop} {i : Nat} {vi : VOper} (hi : vl[i]? = some vi) : ∀ (fuel : Nat) (listed : Array Bool) (env : Env) (σ : Store),
    DC ops listed → i ∈ Region.ready .any ops listed → firstT ops vl (befs ops) listed i = true → step X vi (fun e s => wAny X ops vl K fuel (listed.setIfInBounds i true) e s) env σ → wAny X ops vl K (fuel + 1) listed env σ := by
  intro fuel
  induction fuel with
  | zero =>
    intro listed env σ hdc hr hfr H
    refine ⟨fun h => (by rw [h] at hr; cases hr), fun j hj => ?_⟩
    by_cases hji : j = i
    · subst hji; exact ⟨vi, hi, H⟩
    · obtain ⟨vj, hvj, hff⟩ := firstT_free hdc hfr hi hr hj hji
      rw [step_GS (freeT_quiet hff)] at H
      obtain ⟨v, g', _, H⟩ := H
      have := ready_mono hj hji
      rw [H.1] at this; cases this
  | succ fuel ih =>
    intro listed env σ hdc hr hfr H
    refine ⟨fun h => (by rw [h] at hr; cases hr), fun j hj => ?_⟩
    by_cases hji : j = i
    · subst hji; exact ⟨vi, hi, H⟩
    · obtain ⟨vj, hvj, hff⟩ := firstT_free hdc hfr hi hr hj hji
      refine ⟨vj, hvj, ?_⟩
      have H2 : step X vi (fun e s => step X vj (fun e s => wAny X ops vl K fuel ((listed.setIfInBounds i true).setIfInBounds j true) e s) e s) env σ := step_mono hK (fun e s h => by
        obtain ⟨vj', hvj', h'⟩ := h.2 j (ready_mono hj hji)
        rw [hvj] at hvj'; injection hvj' with hvj'; subst hvj'
        exact h') H
      refine step_mono hK (fun e s h => ?_) (step_swap hK hff H2)
      refine ih _ _ _ (hdc.list hj) (ready_mono hr (fun e => hji e.symm)) (firstT_set hfr j) ?_
      rw [Array.setIfInBounds_comm _ _ hji]
      exact h

theorem step_none {x : VOper} (hg : x.guard = none) {N : Env → Store → Prop} {env : Env} {σ : Store} : step X x N env σ = vop X false x env σ (fun v σ' => N (upd env x.dst v) σ') := by
  unfold step
  rw [hg]
  simp [wantedV]
theorem step_swapL {x y : VOper} {t s sz : Nat} {ys : O} (hx : x.op = .append sz (.t t) ys) (hg : x.guard = none) (hf : freeL s x y = true) {N : Env → Store → Prop} {env : Env} {σ : Store} (hl : locC t s ys env σ.next) (h : step X x (fun e s => step X y N e s) env σ) :
    step X y (fun e σ' => locC t s ys e σ'.next ∧ step X x N e σ') env σ := by
  unfold freeL at hf
  simp only [Bool.and_eq_true, bne_iff_ne] at hf
  obtain ⟨⟨⟨⟨⟨f1, hq⟩, f3⟩, f4⟩, f5⟩, f6⟩ := hf
  have F := vapart_apart f1
  obtain ⟨⟨len, ht⟩, hsrc⟩ := hl
  have hslot : ∀ k ∈ x.op.slots, ∀ v', upd env y.dst v' k = env k := fun k hk v' => upd_slot (env := env) (v := v') F.yx k (slots_op hk)
  have hst : t ∈ x.op.slots := by rw [hx]; simp [VOp.slots, oSlots]
  have hys : ∀ v', evO (upd env y.dst v') ys = evO env ys := fun v' => (evO_congr fun k hk => by rw [hslot k (by rw [hx]; simp [VOp.slots, hk])]).symm
  rw [step_none hg] at h
  unfold vop at h
  simp only [hx, eop] at h
  have ex : evO env (.t t) = .own ⟨s, σ.next⟩ 0 len := ht
  rw [ex] at h
  cases hr : rowsIn σ.get (evO env ys) with
  | none => rw [hr] at h; exact h.elim
  | some rs =>
    rw [hr] at h
    simp only [Option.bind_some, vappend] at h
    cases hgs : σ.get ⟨s, σ.next⟩ with
    | none => rw [hgs] at h; exact h.elim
    | some r =>
      rw [hgs] at h
      simp only [Option.bind_some] at h
      split at h
      · rename_i v g1 hv
        split at hv
        · rename_i hcond
          simp only [Option.some.injEq, Prod.mk.injEq] at hv
          obtain ⟨rfl, rfl⟩ := hv
          rw [step_GS hq] at h
          obtain ⟨v', g2, hG, hN⟩ := h
          have hne1 : (⟨y.site, σ.next⟩ : Id) ≠ ⟨s, σ.next⟩ := fun e => f5 (by injection e)
          have hne2 : (⟨y.site, σ.next⟩ : Id) ≠ ⟨x.site, σ.next⟩ := fun e => f6 (by injection e)
          replace hG : GS X σ.next y env (setR (killR σ.get ⟨s, σ.next⟩) ⟨x.site, σ.next⟩ ⟨true, sz, r.rows ++ rs⟩) v' g2 := GS_congr (upd_slot F.xy) hG
          have hvis : vis y.hid σ.next σ.get = vis y.hid σ.next (setR (killR σ.get ⟨s, σ.next⟩) ⟨x.site, σ.next⟩ ⟨true, sz, r.rows ++ rs⟩) := by
            cases hh : y.hid with
            | nil => rw [hh] at f3; simp at f3
            | cons a l =>
              rw [hh] at f3 f4
              funext i
              show (if (a :: l).contains i.site = true ∧ i.ver = σ.next then none else σ.get i) = if (a :: l).contains i.site = true ∧ i.ver = σ.next then none else _
              by_cases h1 : i = ⟨x.site, σ.next⟩
              · subst h1; rw [if_pos ⟨f4, rfl⟩, if_pos ⟨f4, rfl⟩]
              · by_cases h2 : i = ⟨s, σ.next⟩
                · subst h2; rw [if_pos ⟨f3, rfl⟩, if_pos ⟨f3, rfl⟩]
                · simp only [setR, killR, if_neg h1, if_neg h2]
          obtain ⟨my, hg2, hG'⟩ : ∃ my, g2 = addR (setR (killR σ.get ⟨s, σ.next⟩) ⟨x.site, σ.next⟩ ⟨true, sz, r.rows ++ rs⟩) ⟨y.site, σ.next⟩ my ∧ GS X σ.next y env σ.get v' (addR σ.get ⟨y.site, σ.next⟩ my) := by
            unfold GS at hG ⊢
            by_cases wy : wantedV y.guard env = true
            · rw [if_pos wy] at hG
              have hcw : y.op.cls ≠ .write := by
                unfold quietB at hq
                simp only [Bool.and_eq_true, bne_iff_ne] at hq
                exact hq.2
              obtain ⟨my, rfl, _, ally⟩ := VS_quiet hcw hG
              exact ⟨my, rfl, by rw [if_pos wy]; exact ally _ hvis⟩
            · rw [if_neg wy] at hG
              obtain ⟨rfl, rfl⟩ := hG
              exact ⟨none, rfl, by rw [if_neg wy]; exact ⟨rfl, rfl⟩⟩
          subst hg2
          refine (step_GS hq).2 ⟨v', _, hG', ⟨⟨len, by rw [hslot t hst]; exact ht⟩, fun id o l he => hsrc id o l (by rw [← hys v']; exact he)⟩, ?_⟩
          rw [step_none hg]
          unfold vop
          have ex' : evO (upd env y.dst v') (.t t) = .own ⟨s, σ.next⟩ 0 len := by
            show upd env y.dst v' t = _
            rw [hslot t hst]; exact ht
          simp only [hx, eop, ex', hys v']
          have hr' : rowsIn (addR σ.get ⟨y.site, σ.next⟩ my) (evO env ys) = some rs := by
            cases my with
            | none => exact hr
            | some row =>
              revert hr
              cases hev : evO env ys <;> simp only [rowsIn, addR] <;> try exact fun h => h
              rename_i id o l
              have : id ≠ ⟨y.site, σ.next⟩ := fun e => hsrc id o l hev (by rw [e])
              simp only [setR, if_neg this]; exact fun h => h
          have hgs' : addR σ.get ⟨y.site, σ.next⟩ my ⟨s, σ.next⟩ = some r := by
            cases my with
            | none => exact hgs
            | some row => simp only [addR, setR, if_neg (fun e => hne1 e.symm : (⟨s, σ.next⟩ : Id) ≠ ⟨y.site, σ.next⟩)]; exact hgs
          rw [hr']
          simp only [Option.bind_some, vappend, hgs']
          rw [if_pos hcond]
          have hgg : setR (killR (addR σ.get ⟨y.site, σ.next⟩ my) ⟨s, σ.next⟩) ⟨x.site, σ.next⟩ ⟨true, sz, r.rows ++ rs⟩ = addR (setR (killR σ.get ⟨s, σ.next⟩) ⟨x.site, σ.next⟩ ⟨true, sz, r.rows ++ rs⟩) ⟨y.site, σ.next⟩ my := by
            cases my with
            | none => rfl
            | some row =>
              funext i
              simp only [addR, setR, killR]
              by_cases h1 : i = ⟨y.site, σ.next⟩
              · subst h1; rw [if_neg hne2, if_neg hne1, if_pos rfl, if_pos rfl]
              · simp only [if_neg h1]
          have hu := upd_comm (env := env) (v := AV.own ⟨x.site, σ.next⟩ 0 (len + rs.length)) (u := v') F.dst
          show N (upd (upd env y.dst v') x.dst (.own ⟨x.site, σ.next⟩ 0 (len + rs.length))) ⟨setR (killR (addR σ.get ⟨y.site, σ.next⟩ my) ⟨s, σ.next⟩) ⟨x.site, σ.next⟩ ⟨true, sz, r.rows ++ rs⟩, σ.next⟩
          rw [hgg, ← hu]
          exact hN
        · cases hv
      · exact h.elim

theorem firstL_set {ops : Array Oper} {vl : List VOper} {bs : Array Nat} {listed : Array Bool} {i s : Nat} (h : firstL ops vl bs listed i s = true) (j : Nat) : firstL ops vl bs (listed.setIfInBounds j true) i s = true := by
  unfold firstL at h ⊢
  split at h
  · rename_i x hx
    simp only [List.all_eq_true, Bool.or_eq_true] at h ⊢
    intro k hk
    rcases h k hk with ((h | h) | h) | h
    · exact .inl (.inl (.inl (getD_set_true h)))
    · exact .inl (.inl (.inr h))
    · exact .inl (.inr h)
    · exact .inr h
  · cases h
theorem firstL_free {ops : Array Oper} {vl : List VOper} {listed : Array Bool} {i j s : Nat} {vi : VOper} (hdc : DC ops listed) (h : firstL ops vl (befs ops) listed i s = true) (hi : vl[i]? = some vi) (hr : i ∈ Region.ready .any ops listed) (hj : j ∈ Region.ready .any ops listed) (hji : j ≠ i) : ∃ vj, vl[j]? = some vj ∧ freeL s vi vj = true := by
  unfold firstL at h
  rw [hi] at h
  simp only [List.all_eq_true, Bool.or_eq_true, beq_iff_eq] at h
  obtain ⟨_, o, ho, _⟩ := mem_ready.1 hj
  rcases h j (List.mem_range.2 (Array.getElem?_eq_some_iff.1 ho).1) with ((h | h) | h) | h
  · rw [ready_not hj] at h; cases h
  · exact absurd h hji
  · have := ready_bits hdc hj i h
    rw [ready_not hr] at this; cases this
  · split at h
    · rename_i y hy; exact ⟨y, hy, h⟩
    · cases h
theorem wAny_firstL (hK : MonoC X) {ops : Array Oper} {vl : List VOper} {K : Env → Store → Prop} {i t s sz : Nat} {ys : O} {vi : VOper} (hi : vl[i]? = some vi) (hx : vi.op = .append sz (.t t) ys) (hg : vi.guard = none) : ∀ (fuel : Nat) (listed : Array Bool) (env : Env) (σ : Store),
    DC ops listed → i ∈ Region.ready .any ops listed → firstL ops vl (befs ops) listed i s = true → locC t s ys env σ.next → step X vi (fun e s => wAny X ops vl K fuel (listed.setIfInBounds i true) e s) env σ → wAny X ops vl K (fuel + 1) listed env σ := by
  intro fuel
  induction fuel with
  | zero =>
    intro listed env σ hdc hr hfr hlc H
    refine ⟨fun h => (by rw [h] at hr; cases hr), fun j hj => ?_⟩
    by_cases hji : j = i
    · subst hji; exact ⟨vi, hi, H⟩
    · exfalso
      have h0 := ready_mono hj hji
      rw [step_none hg] at H
      unfold vop at H
      simp only [hx] at H
      split at H
      · rw [H.1] at h0; cases h0
      · exact H
  | succ fuel ih =>
    intro listed env σ hdc hr hfr hlc H
    refine ⟨fun h => (by rw [h] at hr; cases hr), fun j hj => ?_⟩
    by_cases hji : j = i
    · subst hji; exact ⟨vi, hi, H⟩
    · obtain ⟨vj, hvj, hff⟩ := firstL_free hdc hfr hi hr hj hji
      refine ⟨vj, hvj, ?_⟩
      have H2 : step X vi (fun e s => step X vj (fun e s => wAny X ops vl K fuel ((listed.setIfInBounds i true).setIfInBounds j true) e s) e s) env σ := step_mono hK (fun e s h => by
        obtain ⟨vj', hvj', h'⟩ := h.2 j (ready_mono hj hji)
        rw [hvj] at hvj'; injection hvj' with hvj'; subst hvj'
        exact h') H
      refine step_mono hK (fun e s h => ?_) (step_swapL hx hg hff hlc H2)
      refine ih _ _ _ (hdc.list hj) (ready_mono hr (fun e => hji e.symm)) (firstL_set hfr j) h.1 ?_
      rw [Array.setIfInBounds_comm _ _ hji]
      exact h.2
theorem locT_inv {ops : Array Oper} {vl : List VOper} {bs : Array Nat} {listed : Array Bool} {i i' t s : Nat} {y : O} {vo : VOper} (h : locT ops vl bs listed i = some (i', t, s, y, vo)) : i' = i ∧ vl[i]? = some vo ∧ (∃ sz, vo.op = .append sz (.t t) y) ∧ vo.guard = none ∧ firstL ops vl bs listed i s = true := by
  unfold locT at h
  split at h
  · rename_i x hx
    split at h
    · rename_i t' s' y' hlo
      split at h
      · rename_i hf
        simp only [Option.some.injEq, Prod.mk.injEq] at h
        obtain ⟨rfl, rfl, rfl, rfl, rfl⟩ := h
        unfold locOf at hlo
        split at hlo
        · rename_i sz t2 y2 ho hgd
          split at hlo
          · simp only [Option.some.injEq, Prod.mk.injEq] at hlo
            obtain ⟨rfl, rfl, rfl⟩ := hlo
            exact ⟨rfl, hx, ⟨sz, ho⟩, hgd, hf⟩
          · cases hlo
        · cases hlo
      · cases h
    · cases h
  · cases h

theorem bothL_all {X : CallP} {Q : Ex → Env → Store → Prop} {env : Env} {σ : Store} : ∀ {l : List VC} {t : VC}, bothL l = some t → wpv X t Q env σ → ∀ c ∈ l, wpv X c Q env σ
  | [], t, h, _, c, hc => by cases hc
  | [c0], t, h, hw, c, hc => by
    simp only [bothL, Option.some.injEq] at h
    subst h
    rw [List.mem_singleton] at hc
    subst hc; exact hw
  | c0 :: c1 :: r, t, h, hw, c, hc => by
    simp only [bothL, Option.map_eq_some_iff] at h
    obtain ⟨t', ht', rfl⟩ := h
    rcases List.mem_cons.1 hc with rfl | hc
    · exact hw.1
    · exact bothL_all ht' hw.2 c hc

theorem mapM_mem {α β : Type} {f : α → Option β} : ∀ {l : List α} {r : List β}, l.mapM f = some r → ∀ i ∈ l, ∃ b ∈ r, f i = some b
  | [], _, _, i, hi => by cases hi
  | a :: l, r, h, i, hi => by
    simp only [List.mapM_cons, Option.bind_eq_bind, Option.bind_eq_some_iff, Option.pure_def, Option.some.injEq] at h
    obtain ⟨b, hb, r', hr, rfl⟩ := h
    rcases List.mem_cons.1 hi with rfl | hi
    · exact ⟨b, by simp, hb⟩
    · obtain ⟨c, hc, hf⟩ := mapM_mem hr i hi
      exact ⟨c, List.mem_cons_of_mem _ hc, hf⟩

theorem tree_wAny (hK : MonoC X) {ops : Array Oper} {vl : List VOper} {Q : Ex → Env → Store → Prop} : ∀ (n : Nat) (listed : Array Bool) (t : VC) (env : Env) (σ : Store), treeC ops vl (befs ops) n listed = some t → DC ops listed → wpv X t Q env σ → wAny X ops vl (Q .normal) n listed env σ := by
  intro n
  induction n with
  | zero =>
    intro listed t env σ h _ hw
    unfold treeC at h
    split at h
    · rename_i hr
      simp only [Option.some.injEq] at h
      subst h
      exact ⟨hr, hw⟩
    · cases h
  | succ n ih =>
    intro listed t env σ h hdc hw
    unfold treeC at h
    split at h
    · rename_i hr
      simp only [Option.some.injEq] at h
      subst h
      exact ⟨fun _ => hw, fun i hi => by rw [hr] at hi; cases hi⟩
    · rename_i r rs hr
      dsimp only at h
      split at h
      · rename_i i hfind
        have hi1 := List.mem_of_find?_eq_some hfind
        have hi2 := List.find?_some hfind
        rw [← hr] at hi1
        split at h
        · rename_i vo hvo
          simp only [Option.map_eq_some_iff] at h
          obtain ⟨t', ht', rfl⟩ := h
          exact wAny_first hK hvo n listed env σ hdc hi1 hi2 (step_mono hK (fun e s h => ih _ _ _ _ ht' (hdc.list hi1) h) hw)
        · cases h
      · split at h
        · rename_i i t s y vo hfind
          obtain ⟨i0, hi0, hlt⟩ := List.exists_of_findSome?_eq_some hfind
          obtain ⟨rfl, hvo, ⟨sz, hop⟩, hgd, hfl⟩ := locT_inv hlt
          rw [← hr] at hi0
          simp only [Option.map_eq_some_iff] at h
          obtain ⟨t', ht', rfl⟩ := h
          exact wAny_firstL hK hvo hop hgd n listed env σ hdc hi0 hfl hw.1 (step_mono hK (fun e s h => ih _ _ _ _ ht' (hdc.list hi0) h) hw.2)
        split at h
        · rename_i l hl
          have hall := bothL_all h hw
          refine ⟨fun h => (by rw [h] at hr; cases hr), fun i hi => ?_⟩
          rw [hr] at hi
          obtain ⟨b, hb1, hb2⟩ := mapM_mem hl i hi
          simp only [Option.bind_eq_some_iff, Option.map_eq_some_iff] at hb2
          obtain ⟨vo, hvo, t', ht', rfl⟩ := hb2
          exact ⟨vo, hvo, step_mono hK (fun e s h => ih _ _ _ _ ht' (hdc.list (by rw [hr]; exact hi)) h) (hall _ hb1)⟩
        · cases h

theorem tree_sound {ops : Array Oper} {vl : List VOper} {nt site0 : Nat} {draw mk : Bool} {bs : Array Nat} {hidden : List (Nat × Bool)} {K : Env → Store → Prop} {Q : Exit → Act → World → Prop} (hall : allM (cOper P ops nt site0 draw mk bs hidden) ops.toList 0 = some vl) :
    ∀ (fuel : Nat) (listed : Array Bool) (env : Env) (σ : Store) (a : Act) (w : World) (D : Nat → Prop) (ι : Names) (U : Nat → Prop), wAny (Sound P) ops vl K fuel listed env σ → Sim P hs D ι σ.get w → Used ι σ.next U → (∀ s, U s → ∃ i, s = site0 + i ∧ listed.getD i false = true) → EnvRep P w D ι env a → a.tmps.size = nt →
    (∀ env' σ' a' w' D' ι', K env' σ' → Step hs D ι w D' ι' w' → St P hs nt D' ι' env' σ' a' w' → a'.defers = a.defers → σ.next ≤ σ'.next → Q .normal a' w') → wpAny P .any ops Q fuel listed a w := by
  intro fuel
  induction fuel with
  | zero => intro listed env σ a w D ι U h S Us hU E hsz hQ; exact ⟨h.1, hQ env _ a w D ι h.2 (Step.refl _ _ _ _) ⟨S, Us.next, E, hsz⟩ rfl (Nat.le_succ _)⟩
  | succ fuel ih =>
    intro listed env σ a w D ι U h S Us hU E hsz hQ
    refine ⟨fun hr => hQ env _ a w D ι (h.1 hr) (Step.refl _ _ _ _) ⟨S, Us.next, E, hsz⟩ rfl (Nat.le_succ _), fun i hi => ?_⟩
    obtain ⟨vo, hvo, hG⟩ := h.2 i hi
    obtain ⟨_, o, ho, _⟩ := mem_ready.1 hi
    obtain ⟨vo', hvo', hco⟩ := (allM_get hall).2 i o (by simpa using ho)
    rw [hvo] at hvo'; injection hvo' with hvo'; subst hvo'
    rw [Nat.zero_add] at hco
    obtain ⟨hc, hd, hsite, hdst, hg⟩ := cOper_inv hco
    have hw := wanted_eq (ops := ops) (vo := vo) E hg
    have hUi : ¬ U vo.site := fun hu => by
      obtain ⟨i', he, hl⟩ := hU _ hu
      have : i' = i := by omega
      subst this
      rw [ready_not hi] at hl; cases hl
    have hisz : i < listed.size := by
      have h0 := (mem_ready.1 hi).1
      rcases Nat.lt_or_ge i listed.size with h | h
      · exact h
      · simp [Array.getElem?_eq_none h] at h0
    unfold wpOp
    simp only [ho]
    rw [← hw]
    unfold step at hG
    by_cases hwt : wantedV vo.guard env = true
    · rw [if_pos hwt]
      rw [if_pos hwt] at hG
      refine .inl (vop_sound hc hG S Us hUi E fun v σ' u D' ι' w' hn T S' hR U' hle => ?_)
      refine ih _ _ _ _ w' D' ι' _ hn S' U' (fun s hs' => ?_) (by rw [hd]; exact env_put (env_step E T) hR hdst hsz) (by rw [put_size]; exact hsz) fun env' σ2 a2 w2 D2 ι2 hk T2 hst2 hdf hle2 => hQ env' σ2 a2 w2 D2 ι2 hk (T.trans T2) hst2 (hdf.trans (put_defers _ _ _)) (Nat.le_trans hle hle2)
      rcases hs' with h | h
      · obtain ⟨i', he, hl⟩ := hU _ h
        exact ⟨i', he, getD_set_true hl⟩
      · exact ⟨i, by rw [h, hsite], by simp [hisz]⟩
    · rw [if_neg hwt]
      rw [if_neg hwt] at hG
      refine ih _ _ _ _ w D ι U hG S Us (fun s hs' => ?_) (by rw [hd]; exact env_put E Rep.undef hdst hsz) (by rw [put_size]; exact hsz) fun env' σ2 a2 w2 D2 ι2 hk T2 hst2 hdf hle2 => hQ env' σ2 a2 w2 D2 ι2 hk T2 hst2 (hdf.trans (put_defers _ _ _)) hle2
      obtain ⟨i', he, hl⟩ := hU _ hs'
      exact ⟨i', he, getD_set_true hl⟩

end
end Go.Proofs.YtpbniieiinhliaaGreat.V

namespace Go.Proofs.YtpbniieiinhliaaGreat.V
open Go.RowKit

variable {P : Program} {w w' : World} {D D' D2 : Nat → Prop} {ι ι' ι2 : Names}
section
variable {hs : Nat} {X : CallP}

def exO : Ex → Exit
  | .normal => .normal
  | .exit id => .exit id
  | .ret => .ret

theorem St.drew {nt : Nat} {env : Env} {σ : Store} {a : Act} {D : Nat → Prop} {ι : Names} (h : St P hs nt D ι env σ a w) : St P hs nt D ι env σ a w.drew ∧ Step hs D ι w D ι w.drew := by
  have T : Step hs D ι w D ι w.drew := Step.stay h.sim (fun _ _ => rfl) (Nat.le_refl _) rfl rfl rfl (fun _ h => h) (fun _ h => .inl h) (fun _ _ h => h)
  exact ⟨⟨h.sim.stay (fun _ _ => rfl) (Nat.le_refl _) (fun _ h => h) h.sim.dead (fun _ h => .inl h) (fun _ _ h => h), h.used, env_step h.env T, h.size⟩, T⟩

/-- What a post of the small language says of the machine's. -/
def PostQ (P : Program) (hs nt : Nat) (ds : List Deferred) (Q : Ex → Env → Store → Prop) (n0 : Nat) (D : Nat → Prop) (ι : Names) (w : World) (Q' : Exit → Act → World → Prop) : Prop :=
  ∀ ex env σ a w' D' ι', Q ex env σ → Step hs D ι w D' ι' w' → St P hs nt D' ι' env σ a w' → a.defers = ds → n0 ≤ σ.next → Q' (exO ex) a w'

theorem PostQ.later {nt : Nat} {ds : List Deferred} {Q : Ex → Env → Store → Prop} {n0 n1 : Nat} {Q' : Exit → Act → World → Prop} (h : PostQ P hs nt ds Q n0 D ι w Q') (T : Step hs D ι w D' ι' w') (hn : n0 ≤ n1) : PostQ P hs nt ds Q n1 D' ι' w' Q' :=
  fun ex env σ a w2 D2 ι2 hq T2 hst hd hle => h ex env σ a w2 D2 ι2 hq (T.trans T2) hst hd (Nat.le_trans hn hle)

theorem code_sound (hm : P.follows .mixedOrders = true) {md : List (Nat × Nat)} {nt fid : Nat} : ∀ (c : Code) (vc : VC), cCode P md nt fid c = some vc → ∀ (Q : Ex → Env → Store → Prop) (env : Env) (σ : Store) (a : Act) (w : World) (D : Nat → Prop) (ι : Names) (Q' : Exit → Act → World → Prop),
    wpv (Sound P) vc Q env σ → St P hs nt D ι env σ a w → PostQ P hs nt a.defers Q σ.next D ι w Q' → c.wp P Q' a w := by
  intro c
  induction c with
  | skip =>
    intro vc h Q env σ a w D ι Q' hv hst hQ
    simp [cCode] at h; subst h
    exact wp_skip (hQ .normal env σ a w D ι hv (Step.refl _ _ _ _) hst rfl (Nat.le_refl _))
  | exit id =>
    intro vc h Q env σ a w D ι Q' hv hst hQ
    simp [cCode] at h; subst h
    exact wp_exit (hQ (.exit id) env σ a w D ι hv (Step.refl _ _ _ _) hst rfl (Nat.le_refl _))
  | ret =>
    intro vc h Q env σ a w D ι Q' hv hst hQ
    simp [cCode] at h; subst h
    exact wp_ret (hQ .ret env σ a w D ι hv (Step.refl _ _ _ _) hst rfl (Nat.le_refl _))
  | seq x y ihx ihy =>
    intro vc h Q env σ a w D ι Q' hv hst hQ
    simp only [cCode, Option.bind_eq_bind, Option.bind_eq_some_iff, Option.pure_def, Option.some.injEq] at h
    obtain ⟨vx, hx, vy, hy, rfl⟩ := h
    refine wp_seq (ihx vx hx _ env σ a w D ι _ hv hst fun ex env1 σ1 a1 w1 D1 ι1 hq T hst1 hd hle => ?_)
    cases ex with
    | normal => exact ihy vy hy Q env1 σ1 a1 w1 D1 ι1 Q' hq hst1 (by rw [hd]; exact hQ.later T hle)
    | exit id => exact hQ (.exit id) env1 σ1 a1 w1 D1 ι1 hq T hst1 hd hle
    | ret => exact hQ .ret env1 σ1 a1 w1 D1 ι1 hq T hst1 hd hle
  | cond c x y ihx ihy =>
    intro vc h Q env σ a w D ι Q' hv hst hQ
    simp only [cCode, Option.bind_eq_bind, Option.bind_eq_some_iff, Option.pure_def, Option.some.injEq] at h
    obtain ⟨c', hc, vx, hx, vy, hy, rfl⟩ := h
    unfold wpv at hv
    have hr := rep_O hst.env hc
    split at hv
    · rename_i b hb
      rw [hb] at hr
      refine wp_cond (rep_bool hr) ?_
      cases b with
      | true => exact ihx vx hx Q env σ a w D ι Q' hv hst hQ
      | false => exact ihy vy hy Q env σ a w D ι Q' hv hst hQ
    · exact hv.elim
  | block id c ih =>
    intro vc h Q env σ a w D ι Q' hv hst hQ
    simp only [cCode, Option.map_eq_some_iff] at h
    obtain ⟨vx, hx, rfl⟩ := h
    refine wp_block (ih vx hx _ env σ a w D ι _ hv hst fun ex env1 σ1 a1 w1 D1 ι1 hq T hst1 hd hle => ?_)
    cases ex with
    | normal => exact hQ .normal env1 σ1 a1 w1 D1 ι1 hq T hst1 hd hle
    | ret => exact hQ .ret env1 σ1 a1 w1 D1 ι1 hq T hst1 hd hle
    | exit id' =>
      simp only [blockQ] at hq
      simp only [exO, Exit.inBlock]
      by_cases hid : id' = id
      · rw [if_pos hid] at hq ⊢; exact hQ .normal env1 σ1 a1 w1 D1 ι1 hq T hst1 hd hle
      · rw [if_neg hid] at hq ⊢; exact hQ (.exit id') env1 σ1 a1 w1 D1 ι1 hq T hst1 hd hle
  | loop c ih =>
    intro vc h Q env σ a w D ι Q' hv hst hQ
    simp only [cCode, Option.map_eq_some_iff] at h
    obtain ⟨vx, hx, rfl⟩ := h
    obtain ⟨n, hv⟩ := hv
    refine wp_loop_rounds n ?_
    have key : ∀ n env σ a w D ι, loopN (wpv (Sound P) vx) Q n env σ → St P hs nt D ι env σ a w → PostQ P hs nt a.defers Q σ.next D ι w Q' → Code.rounds P c Q' n a w := by
      intro n
      induction n with
      | zero => intro env σ a w D ι h; exact h.elim
      | succ n ihn =>
        intro env σ a w D ι h hst hQ
        rw [rounds_succ]
        refine ih vx hx _ env σ a w D ι _ h hst fun ex env1 σ1 a1 w1 D1 ι1 hq T hst1 hd hle => ?_
        cases ex with
        | normal => exact ihn env1 σ1 a1 w1 D1 ι1 hq hst1 (by rw [hd]; exact hQ.later T hle)
        | exit id => exact hQ (.exit id) env1 σ1 a1 w1 D1 ι1 hq T hst1 hd hle
        | ret => exact hQ .ret env1 σ1 a1 w1 D1 ι1 hq T hst1 hd hle
    exact key n env σ a w D ι hv hst hQ
  | region id ops draw =>
    intro vc h Q env σ a w D ι Q' hv hst hQ
    simp only [cCode, cReg] at h
    split at h
    · rename_i hmode
      have hdr : draw = true := by
        simp only [Bool.and_eq_true] at hmode; exact hmode.1
      subst hdr
      split at h
      · rename_i vl hall
        obtain ⟨hst', T0⟩ := hst.drew
        have hAny := tree_wAny (X := Sound P) Sound_mono ops.size _ vc env σ h (fun k i h => by
          exfalso
          rcases Nat.lt_or_ge k ops.size with hk | hk
          · simp [hk] at h
          · simp [Nat.not_lt.2 hk] at h) hv
        refine wp_region_any hm ?_
        exact tree_sound hall ops.size _ env σ a w.drew D ι (fun _ => False) hAny hst'.sim hst'.used (fun _ h => h.elim) hst'.env hst'.size fun env1 σ1 a1 w1 D1 ι1 hk T hst1 hd hle => hQ .normal env1 σ1 a1 w1 D1 ι1 hk (T0.trans T) hst1 hd hle
      · cases h
    generalize (modeOf md id == 1) = mk at h
    simp only [Option.map_eq_some_iff] at h
    obtain ⟨vl, hvl, rfl⟩ := h
    cases draw with
    | false =>
      have hall : ∃ vl', allM (cOper P ops nt ((fid * 1000 + id) * 1000) false mk #[] []) ops.toList 0 = some vl' ∧ vl = vl' := by
        unfold cRegV at hvl
        simp only [Bool.false_eq_true, if_false, Bool.not_false, Bool.true_or, if_true] at hvl
        split at hvl
        · rename_i vl' h; simp at hvl; exact ⟨vl', h, hvl.symm⟩
        · cases hvl
      obtain ⟨vl', hall, rfl⟩ := hall
      refine wp_region_list ?_
      exact ops_sound ops.toList vl 0 env σ a w D ι (fun _ => False) hall hv hst.sim hst.used (fun _ h => h.elim) hst.env hst.size fun env1 σ1 a1 w1 D1 ι1 hk T hst1 hd hle => hQ .normal env1 σ1 a1 w1 D1 ι1 hk T hst1 hd hle
    | true =>
      have hall : ∃ hidden vl', allM (cOper P ops nt ((fid * 1000 + id) * 1000) true mk (befs ops) hidden) ops.toList 0 = some vl' ∧ vl = vl' ∧ drawOk ops vl' (befs ops) = true := by
        unfold cRegV at hvl
        simp only [if_true, Bool.not_true, Bool.false_or] at hvl
        split at hvl
        · rename_i vl' h
          split at hvl
          · rename_i hok; simp at hvl; exact ⟨_, vl', h, hvl.symm, hok⟩
          · cases hvl
        · cases hvl
      obtain ⟨hidden, vl', hall, rfl, hok⟩ := hall
      obtain ⟨hst', T0⟩ := hst.drew
      obtain ⟨hlen, _⟩ := allM_get hall
      have hlen' : vl.length = ops.size := by rw [hlen]; simp
      have hAny := vAny_lex (X := Sound P) (K := Q .normal) (n := σ.next) hok hlen' vl 0 (Array.replicate ops.size false) env σ.get (by simp) (by simp) (fun i hi => by simp [hi]) (by simp [hlen']) (fun k i h => by
        exfalso
        rcases Nat.lt_or_ge k ops.size with hk | hk
        · simp [hk] at h
        · simp [Nat.not_lt.2 hk] at h) hv
      refine wp_region_any hm ?_
      rw [hlen'] at hAny
      exact any_sound hall ops.size _ env σ.get a w.drew D ι (fun _ => False) hAny hst'.sim hst'.used (fun _ h => h.elim) hst'.env hst'.size fun env1 g1 a1 w1 D1 ι1 U1 hk T S1 U1' E1 hz1 hd => hQ .normal env1 ⟨g1, σ.next + 1⟩ a1 w1 D1 ι1 hk (T0.trans T) ⟨S1, U1'.next, E1, hz1⟩ hd (Nat.le_succ _)
  | _ =>
    intro vc h
    simp [cCode] at h

def resF (tmps : Array Value) : ResultVar → Sem Value
  | .tmp t => pure (tmps.getD t undef)
  | .cell a t => do loadVar t (← asAddr (tmps.getD a undef))
theorem results_eq (fn : Func) (tmps : Array Value) : results fn tmps = (do
    let vs ← fn.results.mapM (resF tmps)
    pure (if h : vs.size = 1 then vs[0] else .tuple vs)) := by
  unfold results
  congr 2

theorem run_results {nt : Nat} {env : Env} {σ : Store} {a : Act} {D : Nat → Prop} {ι : Names} (hst : St P hs nt D ι env σ a w) : ∀ (rs : List ResultVar) (vr : List VRes) (vs : List AV), rs.mapM (cRes P) = some vr → vresL env σ.get vr = some vs →
    ∃ us : List Value, (rs.mapM (resF a.tmps)).run P w = .ok us w ∧ us.length = vs.length ∧ ∀ (j : Nat) (v : AV), vs[j]? = some v → ∃ u, us[j]? = some u ∧ Rep P w D ι v u
  | [], vr, vs, h, hv => by
    simp at h; subst h
    simp [vresL] at hv; subst hv
    exact ⟨[], by simp, rfl, fun j v h => by simp at h⟩
  | r :: rs, vr, vs, h, hv => by
    simp only [List.mapM_cons, Option.bind_eq_bind, Option.bind_eq_some_iff] at h
    obtain ⟨x, hx, vr', hr, h⟩ := h
    simp at h; subst h
    simp only [vresL, Option.bind_eq_some_iff, Option.map_eq_some_iff] at hv
    obtain ⟨v, hv1, vs', hvs, rfl⟩ := hv
    obtain ⟨us, h1, h2, h3⟩ := run_results hst rs vr' vs' hr hvs
    have one : ∃ u, (resF a.tmps r).run P w = .ok u w ∧ Rep P w D ι v u := by
      cases r with
      | tmp t =>
        simp [cRes] at hx; subst hx
        simp [vres1] at hv1; subst hv1
        exact ⟨_, rfl, hst.env t⟩
      | cell b t =>
        simp only [cRes, Option.bind_eq_bind, Option.bind_eq_some_iff, Option.pure_def, Option.some.injEq] at hx
        obtain ⟨ag, hag, n, hn, rfl⟩ := hx
        simp only [vres1] at hv1
        have hrep := hst.env b
        unfold ld at hv1
        split at hv1
        · rename_i id' i' oo hb
          rw [hb] at hrep
          obtain ⟨B, he, hB⟩ := rep_ptr hrep
          simp only [Option.bind_eq_some_iff] at hv1
          obtain ⟨cs, hcs, hp⟩ := hv1
          obtain ⟨B', r0, hgr, hB', R, hi, fl, f, hf⟩ := row_cs (S := hst.sim) hcs
          rw [hB] at hB'; injection hB' with hB'; subst hB'
          obtain ⟨u, k1, k2⟩ := run_loadPart (w := w) (b := B.b) (oo := i' * B.sz + oo) (f := fun j => f (oo + j)) hag hn hp (fun a ha => fl a (List.mem_of_mem_drop ha)) (fun j hj => by
            rw [Nat.add_assoc]; exact (hf _ (by simp at hj; omega)).1) (fun j a ha => by
            simp at ha; exact (hf _ ((List.getElem?_eq_some_iff.1 ha).1)).2 _ ha)
          exact ⟨u, by simp only [resF, he, asAddr, Sem.run_bind, Sem.run_pure, Result.andThen_ok, k1], k2⟩
        · rename_i cs hb
          rw [hb] at hrep
          obtain ⟨b', oo, vs2, he, q1, q2, q3, q4⟩ := rep_iptr hrep
          obtain ⟨u, k1, k2⟩ := run_loadPart (w := w) (b := b') (oo := oo) (f := vs2) hag hn hv1 q2 q3 (fun j a ha => .imm _ _ (q4 j a ha))
          exact ⟨u, by simp only [resF, he, asAddr, Sem.run_bind, Sem.run_pure, Result.andThen_ok, k1], k2⟩
        · simp at hv1
    obtain ⟨u, hu, hru⟩ := one
    refine ⟨u :: us, ?_, by simp [h2], fun j v' hj => ?_⟩
    · rw [List.mapM_cons]
      simp only [Sem.run_bind, hu, h1, Result.andThen_ok, Sem.run_pure]
    · cases j with
      | zero => simp at hj; subst hj; exact ⟨u, rfl, hru⟩
      | succ j => simp at hj ⊢; exact h3 j v' hj

theorem fn_sound (hm : P.follows .mixedOrders = true) {f : Nat} {md : List (Nat × Nat)} {vf : VFn} {args : List AV} {σ : Store} {K : AV → Store → Prop} (hf : cFnM P f md = some vf) (ha : vf.nargs = args.length) (h : wpv (Sound P) vf.body (retQ vf.res K) (envOf args) σ) : Sound P f args σ K := by
  intro hs D ι w vs S Us A
  unfold cFnM at hf
  split at hf
  · rename_i fn hfn
    split at hf
    · rename_i c hc
      simp only [Option.bind_eq_bind, Option.bind_eq_some_iff] at hf
      obtain ⟨vb, hb, vr, hr, hf⟩ := hf
      split at hf
      · rename_i hle
        simp only [Option.pure_def, Option.some.injEq] at hf
        subst hf
        simp only at ha h
        have hsz : vs.size = args.length := A.1
        refine calls_of_wp hfn hc ?_
        refine code_sound hm c vb hb (retQ vr K) (envOf args) σ _ w D ι _ h ⟨S, Us, fun t => ?_, by simp; omega⟩ fun ex env1 σ1 a1 w1 D1 ι1 hq T hst1 hd hle => ?_
        · simp only [envOf]
          by_cases hlt : t < args.length
          · obtain ⟨u, hu, hru⟩ := A.2 t args[t] (List.getElem?_eq_getElem hlt)
            have e1 : args.getD t .undef = args[t] := by simp [List.getD_eq_getElem?_getD, hlt]
            have e2 : (vs ++ Array.replicate (fn.ntmps - vs.size) undef).getD t undef = u := by
              simp only [Array.getD_eq_getD_getElem?]
              rw [Array.getElem?_append_left (by omega), hu]; rfl
            rw [e1, e2]; exact hru
          · have e1 : args.getD t .undef = .undef := by simp [List.getD_eq_getElem?_getD, Nat.le_of_not_lt hlt]
            have e2 : (vs ++ Array.replicate (fn.ntmps - vs.size) undef).getD t undef = undef := by
              simp only [Array.getD_eq_getD_getElem?]
              rw [Array.getElem?_append_right (by omega), Array.getElem?_replicate]
              split <;> rfl
            rw [e1, e2]; exact Rep.undef
        · have fin : (∃ vs, vresL env1 σ1.get vr = some vs ∧ K (tupOf vs) σ1) → a1.defers = [] ∧ ∃ v, (results fn a1.tmps).run P w1 = .ok v w1 ∧ ∃ r g' n' D' ι' u, Ending.returned v = .returned u ∧ K r ⟨g', n'⟩ ∧ Step hs D ι w D' ι' w1 ∧ Sim P hs D' ι' g' w1 ∧ Used ι' n' (fun _ => False) ∧ σ.next ≤ n' ∧ Rep P w1 D' ι' r u := by
            rintro ⟨avs, hvs, hK⟩
            obtain ⟨us, h1, h2, h3⟩ := run_results hst1 fn.results.toList vr avs hr hvs
            have hres : (results fn a1.tmps).run P w1 = .ok (if h : us.toArray.size = 1 then us.toArray[0] else .tuple us.toArray) w1 := by
              rw [results_eq, Array.mapM_eq_mapM_toList]
              simp only [Sem.run_bind, Sem.run_map, h1, Result.andThen_ok, Sem.run_pure]
            refine ⟨hd, _, hres, tupOf avs, σ1.get, σ1.next, D1, ι1, _, rfl, hK, T, hst1.sim, hst1.used, hle, ?_⟩
            unfold tupOf
            split
            · rename_i v
              have hl : us.length = 1 := h2
              obtain ⟨u, hu, hru⟩ := h3 0 v rfl
              rw [dif_pos (by simpa using hl)]
              have : us.toArray[0]'(by simp [hl]) = u := by
                have := (List.getElem?_eq_some_iff.1 hu).2
                simpa using this
              rw [this]; exact hru
            · rename_i hne
              rw [dif_neg (by
                simp only [List.size_toArray, h2]
                intro h
                obtain ⟨v, hv⟩ := List.length_eq_one_iff.1 h
                exact hne v hv)]
              exact .tup _ _ (fun j => us.getD j undef) (by simp [h2]) (fun j hj => by
                have : j < us.length := by rw [h2]; exact hj
                simp [this]) (fun j v hj => by
                obtain ⟨u, hu, hru⟩ := h3 j v hj
                simpa [List.getD_eq_getElem?_getD, hu] using hru)
          cases ex with
          | normal => exact fin hq
          | ret => exact fin hq
          | exit id => exact hq.elim
      · simp at hf
    · simp at hf
  · simp at hf

/-! ### Calls in the small language -/

def stepC (P : Program) (X : CallP) : CallP := fun f args σ K => (∃ md vf, cFnM P f md = some vf ∧ vf.nargs = args.length ∧ ((∀ a ∈ args, Legal a) → wpv X vf.body (retQ vf.res K) (envOf args) σ)) ∨ Sound P f args σ K
/-- The least meaning of calls. -/
def Call (P : Program) : CallP := fun f args σ K => ∀ X : CallP, MonoC X → (∀ f args σ K, stepC P X f args σ K → X f args σ K) → X f args σ K

theorem call_sound (hm : P.follows .mixedOrders = true) {f : Nat} {args : List AV} {σ : Store} {K : AV → Store → Prop} (h : Call P f args σ K) : Sound P f args σ K :=
  h (Sound P) Sound_mono fun f args σ K hs => by
    rcases hs with ⟨md, vf, h1, h2, h3⟩ | h
    · intro hs D ι w vs S U A
      exact fn_sound hm h1 h2 (h3 (of_mem fun j a hj => by obtain ⟨u, _, hr⟩ := A.2 j a hj; exact hr.legal)) hs D ι w vs S U A
    · exact h

end
end Go.Proofs.YtpbniieiinhliaaGreat.V

namespace Go.Proofs.YtpbniieiinhliaaGreat.V
open Go.RowKit

variable {P : Program} {X Y : CallP}

theorem PCx_mono (h : ∀ f args σ K, X f args σ K → Y f args σ K) {f : Nat} {args : List AV} {σ : Store} {K : AV → Prop} (hp : PCx X f args σ K) : PCx Y f args σ K := by
  rcases hp with hp | ⟨a, h1, h2⟩
  · exact .inl (h _ _ _ _ hp)
  · exact .inr ⟨a, h1, h _ _ _ _ h2⟩
theorem CM_mono (h : ∀ f args σ K, X f args σ K → Y f args σ K) {f : Nat} {args : List AV} {σ : Store} {sz : Nat} {rows : List (List AV)} (hp : CM X f args σ sz rows) : CM Y f args σ sz rows := by
  obtain ⟨h1, a, h2, h3⟩ := hp
  exact ⟨h1, a, h2, h _ _ _ _ h3⟩
theorem callW_mono (h : ∀ f args σ K, X f args σ K → Y f args σ K) (hK : ∀ f args σ K K', (∀ r σ', K r σ' → K' r σ') → Y f args σ K → Y f args σ K') {draw : Bool} {hid : List Nat} {site : Nat} {f : Nat} {args : List AV} {σ : Store} {n n' : AV → Store → Prop} (hn : ∀ v σ', n v σ' → n' v σ') (hp : callW X draw hid site f args σ n) : callW Y draw hid site f args σ n' := by
  rcases hp with ⟨r, h1, h2⟩ | ⟨h1, h2⟩ | ⟨h1, sz, rows, h2, h3⟩
  · exact .inl ⟨r, PCx_mono h h1, hn _ _ h2⟩
  · exact .inr (.inl ⟨h1, hK _ _ _ _ _ hn (h _ _ _ _ h2)⟩)
  · exact .inr (.inr ⟨h1, sz, rows, CM_mono h h2, hn _ _ h3⟩)
theorem vop_mono (h : ∀ f args σ K, X f args σ K → Y f args σ K) (hK : ∀ f args σ K K', (∀ r σ', K r σ' → K' r σ') → Y f args σ K → Y f args σ K') {draw : Bool} {o : VOper} {env : Env} {σ : Store} {n n' : AV → Store → Prop} (hn : ∀ v σ', n v σ' → n' v σ') (hp : vop X draw o env σ n) : vop Y draw o env σ n' := by
  unfold vop at hp ⊢
  split at hp
  · exact callW_mono h hK hn hp
  · split at hp
    · exact callW_mono h hK hn hp
    · exact hp.elim
  · split at hp
    · exact hn _ _ hp
    · exact hp.elim
  · split at hp
    · exact hn _ _ hp
    · exact hp.elim
  · split at hp
    · exact hn _ _ hp
    · exact hp.elim
  · split at hp
    · exact hn _ _ hp
    · exact hp.elim
  · split at hp
    · exact hn _ _ hp
    · exact hn _ _ hp
    · exact hp.elim
theorem wpOps_mono (h : ∀ f args σ K, X f args σ K → Y f args σ K) (hK : ∀ f args σ K K', (∀ r σ', K r σ' → K' r σ') → Y f args σ K → Y f args σ K') {draw : Bool} {Q Q' : Env → Store → Prop} (hQ : ∀ e s, Q e s → Q' e s) : ∀ (l : List VOper) (env : Env) (σ : Store), wpOps X draw l Q env σ → wpOps Y draw l Q' env σ
  | [], env, σ, hp => hQ _ _ hp
  | o :: r, env, σ, hp => by
    unfold wpOps at hp ⊢
    split at hp
    · rename_i hw; rw [if_pos hw]; exact vop_mono h hK (fun v σ' => wpOps_mono h hK hQ r _ _) hp
    · rename_i hw; rw [if_neg hw]; exact wpOps_mono h hK hQ r _ _ hp
theorem wpv_mono (h : ∀ f args σ K, X f args σ K → Y f args σ K) (hK : ∀ f args σ K K', (∀ r σ', K r σ' → K' r σ') → Y f args σ K → Y f args σ K') : ∀ (c : VC) (Q Q' : Ex → Env → Store → Prop) (env : Env) (σ : Store), (∀ x e s, Q x e s → Q' x e s) → wpv X c Q env σ → wpv Y c Q' env σ := by
  intro c
  induction c with
  | skip => intro Q Q' env σ hQ hp; exact hQ _ _ _ hp
  | exit id => intro Q Q' env σ hQ hp; exact hQ _ _ _ hp
  | ret => intro Q Q' env σ hQ hp; exact hQ _ _ _ hp
  | one o c ih =>
    intro Q Q' env σ hQ hp
    unfold wpv at hp ⊢
    split at hp
    · rename_i hw; rw [if_pos hw]; exact vop_mono h hK (fun v σ' => ih Q Q' _ _ hQ) hp
    · rename_i hw; rw [if_neg hw]; exact ih Q Q' _ _ hQ hp
  | both a b iha ihb => intro Q Q' env σ hQ hp; exact ⟨iha Q Q' env σ hQ hp.1, ihb Q Q' env σ hQ hp.2⟩
  | loc t s y c ih => intro Q Q' env σ hQ hp; exact ⟨hp.1, ih Q Q' env σ hQ hp.2⟩
  | reg draw ops => intro Q Q' env σ hQ hp; exact wpOps_mono h hK (hQ .normal) ops env σ hp
  | seq a b iha ihb =>
    intro Q Q' env σ hQ hp
    refine iha _ _ env σ (fun x e s hx => ?_) hp
    cases x with
    | normal => exact ihb Q Q' e s hQ hx
    | exit id => exact hQ _ _ _ hx
    | ret => exact hQ _ _ _ hx
  | cond c a b iha ihb =>
    intro Q Q' env σ hQ hp
    unfold wpv at hp ⊢
    split at hp
    · rename_i t ht
      cases t with
      | true => exact iha Q Q' env σ hQ hp
      | false => exact ihb Q Q' env σ hQ hp
    · exact hp.elim
  | block id a iha =>
    intro Q Q' env σ hQ hp
    refine iha _ _ env σ (fun x e s hx => ?_) hp
    cases x with
    | normal => exact hQ _ _ _ hx
    | ret => exact hQ _ _ _ hx
    | exit id' =>
      unfold blockQ at hx ⊢
      dsimp only at hx ⊢
      split at hx
      · rename_i hid; rw [if_pos hid]; exact hQ _ _ _ hx
      · rename_i hid; rw [if_neg hid]; exact hQ _ _ _ hx
  | loop a iha =>
    intro Q Q' env σ hQ hp
    obtain ⟨n, hp⟩ := hp
    refine ⟨n, ?_⟩
    induction n generalizing env σ with
    | zero => exact hp
    | succ n ihn =>
      refine iha _ _ env σ (fun x e s hx => ?_) hp
      cases x with
      | normal => exact ihn e s hx
      | exit id => exact hQ _ _ _ hx
      | ret => exact hQ _ _ _ hx

theorem Call_mono : MonoC (Call P) := fun _ _ _ _ _ hK h X hX hc => hX _ _ _ _ _ hK (h X hX hc)
theorem Call_step {f : Nat} {args : List AV} {σ : Store} {K : AV → Store → Prop} (h : stepC P (Call P) f args σ K) : Call P f args σ K := by
  intro X hX hc
  refine hc _ _ _ _ ?_
  rcases h with ⟨md, vf, h1, h2, h3⟩ | h
  · exact .inl ⟨md, vf, h1, h2, fun hl => wpv_mono (fun f args σ K h => h X hX hc) hX _ _ _ _ _ (fun _ _ _ h => h) (h3 hl)⟩
  · exact .inr h
theorem Call_bodyM {f : Nat} {md : List (Nat × Nat)} {args : List AV} {σ : Store} {K : AV → Store → Prop} {vf : VFn} (hf : cFnM P f md = some vf) (ha : vf.nargs = args.length) (h : (∀ a ∈ args, Legal a) → wpv (Call P) vf.body (retQ vf.res K) (envOf args) σ) : Call P f args σ K :=
  Call_step (.inl ⟨md, vf, hf, ha, h⟩)
theorem Call_body {f : Nat} {args : List AV} {σ : Store} {K : AV → Store → Prop} {vf : VFn} (hf : cFn P f = some vf) (ha : vf.nargs = args.length) (h : (∀ a ∈ args, Legal a) → wpv (Call P) vf.body (retQ vf.res K) (envOf args) σ) : Call P f args σ K :=
  Call_bodyM hf ha h
theorem Call_world {f : Nat} {args : List AV} {σ : Store} {K : AV → Store → Prop} (h : Sound P f args σ K) : Call P f args σ K := Call_step (.inr h)

/-- A function that leaves the caller's rows alone returns a value. -/
def Ret (P : Program) (f : Nat) (args : List AV) (r : AV) : Prop := ∀ σ, PC (Call P) f args σ (fun r' => r' = r)
theorem Ret.body {f : Nat} {args : List AV} {r : AV} {nt na : Nat} {body : VC} {res : List VRes} (hf : cFn P f = some ⟨nt, na, body, res⟩) (ha : na = args.length) (h : (∀ a ∈ args, Legal a) → ∀ σ : Store, wpv (Call P) body (retQ res fun r0 σ' => ∃ r', fz σ'.get 6 r0 = some r' ∧ r' = r) (envOf args) ⟨V.ro σ.get, σ.next⟩) : Ret P f args r := fun σ => Call_body hf ha fun hl => h hl σ

/-! ### Step by step -/
variable {Q : Ex → Env → Store → Prop} {K : Env → Store → Prop} {env : Env} {σ : Store}
theorem w_seq {a b : VC} (h : ∀ N : Env → Store → Prop, (∀ e s, wpv X b Q e s → N e s) → wpv X a (seqQ N Q) env σ) : wpv X (.seq a b) Q env σ := h _ fun _ _ h => h
theorem w_skip (h : Q .normal env σ) : wpv X .skip Q env σ := h
theorem w_exit {id : Nat} (h : Q (.exit id) env σ) : wpv X (.exit id) Q env σ := h
theorem w_ret (h : Q .ret env σ) : wpv X .ret Q env σ := h
theorem w_block {id : Nat} {c : VC} (h : wpv X c (blockQ id Q) env σ) : wpv X (.block id c) Q env σ := h
theorem w_one {o : VOper} {c : VC} (h : ∀ N : AV → Store → Prop, (∀ v s, wpv X c Q (upd env o.dst v) s → N v s) → if wantedV o.guard env then vop X false o env σ N else N .undef σ) : wpv X (.one o c) Q env σ := by
  have := h (fun v s => wpv X c Q (upd env o.dst v) s) fun _ _ h => h
  unfold wpv
  split
  · rename_i hw; rw [if_pos hw] at this; exact this
  · rename_i hw; rw [if_neg hw] at this; exact this
def locP (s n : Nat) : AV → Prop
  | .own id 0 _ => id = ⟨s, n⟩
  | _ => False
def locQ (n : Nat) : AV → Prop
  | .own id _ _ => ¬ id.ver = n
  | _ => True
theorem w_locM {t s : Nat} {y : O} {c : VC} (h1 : locP s σ.next (env t)) (h2 : locQ σ.next (evO env y)) (h : wpv X c Q env σ) : wpv X (.loc t s y c) Q env σ := by
  refine ⟨⟨?_, fun id o l he => ?_⟩, h⟩
  · revert h1
    unfold locP
    split
    · rename_i id l he; rintro rfl; exact ⟨l, he⟩
    · exact fun h => h.elim
  · rw [he] at h2; exact h2
theorem w_both {a b : VC} (ha : wpv X a Q env σ) (hb : wpv X b Q env σ) : wpv X (.both a b) Q env σ := ⟨ha, hb⟩
theorem w_reg {draw : Bool} {ops : List VOper} (h : ∀ N : Env → Store → Prop, (∀ e s, Q .normal e s → N e s) → wpOps X draw ops N env σ) : wpv X (.reg draw ops) Q env σ := h _ fun _ _ h => h
theorem w_nil {draw : Bool} (h : K env ⟨σ.get, σ.next + 1⟩) : wpOps X draw [] K env σ := h
theorem w_op {draw : Bool} {o : VOper} {r : List VOper} (h : ∀ N : AV → Store → Prop, (∀ v s, wpOps X draw r K (upd env o.dst v) s → N v s) → if wantedV o.guard env then vop X draw o env σ N else N .undef σ) : wpOps X draw (o :: r) K env σ := by
  have := h (fun v s => wpOps X draw r K (upd env o.dst v) s) fun _ _ h => h
  unfold wpOps
  split
  · rename_i hw; rw [if_pos hw] at this; exact this
  · rename_i hw; rw [if_neg hw] at this; exact this
theorem w_cond {c : O} {x y : VC} {b : Bool} (hc : evO env c = .bool b) (ht : b = true → wpv X x Q env σ) (hf : b = false → wpv X y Q env σ) : wpv X (.cond c x y) Q env σ := by
  unfold wpv
  simp only [hc]
  cases b with
  | true => exact ht rfl
  | false => exact hf rfl
theorem w_condS {c : O} {x y : VC} (h : match evO env c with | .bool b => (if b = true then wpv X x Q env σ else wpv X y Q env σ) | _ => False) : wpv X (.cond c x y) Q env σ := by
  unfold wpv
  split at h
  · rename_i b hb
    simp only [hb]
    exact h
  · exact h.elim
theorem w_ite {c a b : Prop} [Decidable c] (ht : c → a) (hf : ¬ c → b) : if c then a else b := by split <;> simp_all
/-- Which way a test goes. -/
inductive CondV : AV → Prop → Prop → Prop
  | t {A B : Prop} : A → CondV (.bool true) A B
  | f {A B : Prop} : B → CondV (.bool false) A B
theorem w_condK {c : O} {x y : VC} {v : AV} (hv : evO env c = v) (h : CondV v (wpv X x Q env σ) (wpv X y Q env σ)) : wpv X (.cond c x y) Q env σ := by
  cases h with
  | t h => exact w_cond hv (fun _ => h) (fun e => by cases e)
  | f h => exact w_cond hv (fun e => by cases e) (fun _ => h)
theorem w_condT {c : O} {x y : VC} (hc : evO env c = .bool true) (ht : wpv X x Q env σ) : wpv X (.cond c x y) Q env σ := w_cond hc (fun _ => ht) (fun h => by cases h)
theorem w_condF {c : O} {x y : VC} (hc : evO env c = .bool false) (hf : wpv X y Q env σ) : wpv X (.cond c x y) Q env σ := w_cond hc (fun h => by cases h) (fun _ => hf)
theorem w_loop {c : VC} (I : Nat → Env → Store → Prop) (n : Nat) (h0 : I n env σ) (step : ∀ n env σ, I n env σ → wpv X c (fun x e s => match x with | .normal => ∃ m, m < n ∧ I m e s | x => Q x e s) env σ)
    (hX : ∀ (c : VC) (Q Q' : Ex → Env → Store → Prop) env σ, (∀ x e s, Q x e s → Q' x e s) → wpv X c Q env σ → wpv X c Q' env σ) : wpv X (.loop c) Q env σ := by
  have key : ∀ N n env σ, n < N → I n env σ → loopN (wpv X c) Q N env σ := by
    intro N
    induction N with
    | zero => intro n env σ h; exact absurd h (Nat.not_lt_zero _)
    | succ N ih =>
      intro n env σ hn hI
      refine hX c _ _ env σ (fun x e s hx => ?_) (step n env σ hI)
      cases x with
      | normal => obtain ⟨m, hm, hI'⟩ := hx; exact ih m e s (by omega) hI'
      | exit id => exact hx
      | ret => exact hx
  exact ⟨n + 1, key _ n env σ (Nat.lt_succ_self _) h0⟩
theorem w_loopC {c : VC} (I : Nat → Env → Store → Prop) (n : Nat) (h0 : I n env σ) (step : ∀ n env σ, I n env σ → wpv (Call P) c (fun x e s => match x with | .normal => ∃ m, m < n ∧ I m e s | x => Q x e s) env σ) : wpv (Call P) (.loop c) Q env σ :=
  w_loop I n h0 step fun c Q Q' env σ hQ h => wpv_mono (fun _ _ _ _ h => h) Call_mono c Q Q' env σ hQ h

/-! ### A loop leaves the slots alone that it does not assign -/
def asg : VC → List Nat
  | .reg _ ops => ops.filterMap (·.dst)
  | .seq a b => asg a ++ asg b
  | .cond _ a b => asg a ++ asg b
  | .block _ a => asg a
  | .loop a => asg a
  | .one o c => o.dst.toList ++ asg c
  | .both a b => asg a ++ asg b
  | .loc _ _ _ c => asg c
  | _ => []
def Keeps (l : List Nat) (env env' : Env) : Prop := ∀ t, l.contains t = false → env' t = env t
theorem Keeps.refl (l : List Nat) (env : Env) : Keeps l env env := fun _ _ => rfl
theorem Keeps.trans {l : List Nat} {e e' e'' : Env} (h : Keeps l e e') (k : Keeps l e' e'') : Keeps l e e'' := fun t ht => (k t ht).trans (h t ht)
theorem Keeps.sub {l l' : List Nat} {e e' : Env} (h : Keeps l e e') (hs : ∀ t, t ∈ l → t ∈ l') : Keeps l' e e' := fun t ht => h t (by
  rw [← Bool.not_eq_true] at ht ⊢
  simp only [List.contains_iff_mem] at ht ⊢
  exact fun hc => ht (hs t hc))
theorem Keeps.upd {l : List Nat} {e e' : Env} {d : Option Nat} {v : AV} (h : Keeps l e e') (hd : ∀ t, d = some t → t ∈ l) : Keeps l e (upd e' d v) := fun t ht => by
  cases d with
  | none => exact h t ht
  | some d =>
    have : t ≠ d := fun hc => by subst hc; rw [← Bool.not_eq_true, List.contains_iff_mem] at ht; exact ht (hd _ rfl)
    show (if t = d then v else e' t) = e t
    rw [if_neg this]; exact h t ht
theorem wpOps_keeps {draw : Bool} {Q : Env → Store → Prop} {l : List Nat} {e0 : Env} : ∀ (ops : List VOper) (env : Env) (σ : Store), (∀ t, t ∈ ops.filterMap (·.dst) → t ∈ l) → Keeps l e0 env → wpOps (Call P) draw ops Q env σ → wpOps (Call P) draw ops (fun e s => Q e s ∧ Keeps l e0 e) env σ
  | [], env, σ, _, hk, hp => ⟨hp, hk⟩
  | o :: r, env, σ, hl, hk, hp => by
    have hd : ∀ t, o.dst = some t → t ∈ l := fun t ht => hl t (List.mem_filterMap.2 ⟨o, by simp, ht⟩)
    have hr : ∀ t, t ∈ r.filterMap (·.dst) → t ∈ l := fun t ht => hl t (by
      obtain ⟨x, hx, h⟩ := List.mem_filterMap.1 ht
      exact List.mem_filterMap.2 ⟨x, List.mem_cons_of_mem _ hx, h⟩)
    unfold wpOps at hp ⊢
    split at hp
    · rename_i hw; rw [if_pos hw]
      exact vop_mono (fun _ _ _ _ h => h) Call_mono (fun v σ' h => wpOps_keeps r _ _ hr (hk.upd hd) h) hp
    · rename_i hw; rw [if_neg hw]; exact wpOps_keeps r _ _ hr (hk.upd hd) hp
theorem wpv_keeps {l : List Nat} {e0 : Env} : ∀ (c : VC) (Q : Ex → Env → Store → Prop) (env : Env) (σ : Store), (∀ t, t ∈ asg c → t ∈ l) → Keeps l e0 env → wpv (Call P) c Q env σ → wpv (Call P) c (fun x e s => Q x e s ∧ Keeps l e0 e) env σ := by
  intro c
  induction c with
  | skip => intro Q env σ _ hk hp; exact ⟨hp, hk⟩
  | exit id => intro Q env σ _ hk hp; exact ⟨hp, hk⟩
  | ret => intro Q env σ _ hk hp; exact ⟨hp, hk⟩
  | one o c ih =>
    intro Q env σ hl hk hp
    have hd : ∀ t, o.dst = some t → t ∈ l := fun t ht => hl t (List.mem_append_left _ (by rw [ht]; simp))
    have hr : ∀ t, t ∈ asg c → t ∈ l := fun t ht => hl t (List.mem_append_right _ ht)
    unfold wpv at hp ⊢
    split at hp
    · rename_i hw; rw [if_pos hw]
      exact vop_mono (fun _ _ _ _ h => h) Call_mono (fun v σ' h => ih Q _ _ hr (hk.upd hd) h) hp
    · rename_i hw; rw [if_neg hw]; exact ih Q _ _ hr (hk.upd hd) hp
  | both a b iha ihb =>
    intro Q env σ hl hk hp
    exact ⟨iha Q env σ (fun t ht => hl t (List.mem_append_left _ ht)) hk hp.1, ihb Q env σ (fun t ht => hl t (List.mem_append_right _ ht)) hk hp.2⟩
  | loc t s y c ih => intro Q env σ hl hk hp; exact ⟨hp.1, ih Q env σ hl hk hp.2⟩
  | reg draw ops => intro Q env σ hl hk hp; exact wpOps_keeps ops env σ hl hk hp
  | seq a b iha ihb =>
    intro Q env σ hl hk hp
    refine wpv_mono (fun _ _ _ _ h => h) Call_mono a _ _ env σ (fun x e s hx => ?_) (iha _ env σ (fun t ht => hl t (List.mem_append_left _ ht)) hk hp)
    cases x with
    | normal => exact ihb Q e s (fun t ht => hl t (List.mem_append_right _ ht)) hx.2 hx.1
    | exit id => exact hx
    | ret => exact hx
  | cond c a b iha ihb =>
    intro Q env σ hl hk hp
    unfold wpv at hp ⊢
    split at hp
    · rename_i t ht
      cases t with
      | true => exact iha Q env σ (fun t ht => hl t (List.mem_append_left _ ht)) hk hp
      | false => exact ihb Q env σ (fun t ht => hl t (List.mem_append_right _ ht)) hk hp
    · exact hp.elim
  | block id a iha =>
    intro Q env σ hl hk hp
    refine wpv_mono (fun _ _ _ _ h => h) Call_mono a _ _ env σ (fun x e s hx => ?_) (iha _ env σ hl hk hp)
    obtain ⟨hx, hk'⟩ := hx
    cases x with
    | normal => exact ⟨hx, hk'⟩
    | ret => exact ⟨hx, hk'⟩
    | exit id' =>
      unfold blockQ at hx ⊢
      dsimp only at hx ⊢
      split at hx
      · rename_i hid; rw [if_pos hid]; exact ⟨hx, hk'⟩
      · rename_i hid; rw [if_neg hid]; exact ⟨hx, hk'⟩
  | loop a iha =>
    intro Q env σ hl hk hp
    obtain ⟨n, hp⟩ := hp
    refine ⟨n, ?_⟩
    induction n generalizing env σ with
    | zero => exact hp
    | succ n ihn =>
      refine wpv_mono (fun _ _ _ _ h => h) Call_mono _ _ _ _ _ (fun x e s hx => ?_) (iha _ env σ hl hk hp)
      obtain ⟨hx, hk'⟩ := hx
      cases x with
      | normal => exact ihn e s hk' hx
      | exit id => exact ⟨hx, hk'⟩
      | ret => exact ⟨hx, hk'⟩
theorem w_loopF {c : VC} (I : Nat → Env → Store → Prop) (n : Nat) (h0 : I n env σ) (step : ∀ n e s, I n e s → Keeps (asg c) env e → wpv (Call P) c (fun x e s => match x with | .normal => ∃ m, m < n ∧ I m e s | x => Q x e s) e s) : wpv (Call P) (.loop c) Q env σ := by
  refine w_loopC (fun n e s => I n e s ∧ Keeps (asg c) env e) n ⟨h0, Keeps.refl _ _⟩ fun n e s hI => ?_
  refine wpv_mono (fun _ _ _ _ h => h) Call_mono _ _ _ _ _ (fun x e' s' hx => ?_) (wpv_keeps c _ e s (fun _ h => h) hI.2 (step n e s hI.1 hI.2))
  obtain ⟨hx, hk⟩ := hx
  cases x with
  | normal => obtain ⟨m, hm, h⟩ := hx; exact ⟨m, hm, h, hk⟩
  | exit id => exact hx
  | ret => exact hx

theorem wrap_id {z : Int} (h : -9223372036854775808 ≤ z ∧ z ≤ 9223372036854775807) : IntKind.i64.wrap z = z := by rw [IntKind.wrap_i64]; omega
theorem wrap_succ {k n : Nat} (h : k < n) (hn : n ≤ 9223372036854775807) : IntKind.i64.wrap ((k : Int) + 1) = ((k + 1 : Nat) : Int) := by rw [IntKind.wrap_i64]; omega
theorem wrap_succ2 {k : Nat} (h : (k : Int) + 1 ≤ 9223372036854775807) : IntKind.i64.wrap ((k : Int) + 1) = ((k + 1 : Nat) : Int) := by rw [IntKind.wrap_i64]; omega
theorem all_succ {k : Nat} {p : Nat → Prop} (h : ∀ j, j < k → p j) (hk : p k) : ∀ j, j < k + 1 → p j := fun j hj => by
  by_cases hjk : j = k
  · subst hjk; exact hk
  · exact h j (by omega)
theorem fz_int (g : Rows) (n : Nat) (k : IntKind) (m : Int) : fz g (n + 1) (.int k m) = some (.int k m) := by rw [fz] <;> intros <;> simp_all
theorem fz_bool (g : Rows) (n : Nat) (b : Bool) : fz g (n + 1) (.bool b) = some (.bool b) := by rw [fz] <;> intros <;> simp_all
theorem fz_str (g : Rows) (n : Nat) (b : ByteArray) : fz g (n + 1) (.str b) = some (.str b) := by rw [fz] <;> intros <;> simp_all
theorem fz_sl (g : Rows) (n : Nat) (l : List (List AV)) : fz g (n + 1) (.sl l) = some (.sl l) := by rw [fz] <;> intros <;> simp_all
theorem fz_nils (g : Rows) (n : Nat) : fz g (n + 1) .nils = some .nils := by rw [fz] <;> intros <;> simp_all
/-- One result. -/
theorem ret1 {t : Nat} {r r0 : AV} {x : Ex} (hx : x = .ret ∨ x = .normal) (he : env t = r0) (hz : fz σ.get 6 r0 = some r) : retQ [.tmp t] (fun r0 σ' => ∃ r', fz σ'.get 6 r0 = some r' ∧ r' = r) x env σ := by
  have : ∃ vs, vresL env σ.get [.tmp t] = some vs ∧ ∃ r', fz σ.get 6 (tupOf vs) = some r' ∧ r' = r := ⟨[env t], rfl, r, by subst he; exact hz, rfl⟩
  rcases hx with rfl | rfl
  · exact this
  · exact this
/-- A function that sees its arguments by value alone and makes its result anew. -/
def RetS (P : Program) (f : Nat) (args : List AV) (r : AV) : Prop := ∀ n : Nat, Call P f args ⟨fun _ => none, n⟩ fun r0 σ' => ∃ r', fzS σ'.get 6 r0 = some r' ∧ r' = r
theorem RetS.body {f : Nat} {args : List AV} {r : AV} {nt na : Nat} {body : VC} {res : List VRes} (hf : cFn P f = some ⟨nt, na, body, res⟩) (ha : na = args.length) (h : (∀ a ∈ args, Legal a) → ∀ n : Nat, wpv (Call P) body (retQ res fun r0 σ' => ∃ r', fzS σ'.get 6 r0 = some r' ∧ r' = r) (envOf args) ⟨fun _ => none, n⟩) : RetS P f args r := fun n => Call_body hf ha fun hl => h hl n
theorem RetS.x {f : Nat} {args args' : List AV} {r : AV} (h : RetS P f args' r) {σ : Store} (hv : fzRow (rw_ σ.get) 6 args = some args') : PCx (Call P) f args σ (fun r' => r' = r) := .inr ⟨args', hv, h _⟩
theorem Ret.x {f : Nat} {args : List AV} {r : AV} (h : Ret P f args r) (σ : Store) : PCx (Call P) f args σ (fun r' => r' = r) := .inl (h σ)

theorem fzS_int (g : Rows) (n : Nat) (k : IntKind) (m : Int) : fzS g (n + 1) (.int k m) = some (.int k m) := by rw [fzS] <;> intros <;> simp_all
theorem fzS_bool (g : Rows) (n : Nat) (b : Bool) : fzS g (n + 1) (.bool b) = some (.bool b) := by rw [fzS] <;> intros <;> simp_all
theorem fzS_nils (g : Rows) (n : Nat) : fzS g (n + 1) .nils = some .nils := by rw [fzS] <;> intros <;> simp_all
theorem fzS_tup (g : Rows) (n : Nat) (l : List AV) : fzS g (n + 1) (.tup l) = (fzSRow g n l).map AV.tup := by rw [fzS]
theorem fzS_own {g : Rows} {n : Nat} {id : Id} {off len sz : Nat} {rows rows' : List (List AV)} (h : g id = some ⟨true, sz, rows⟩) (hl : off + len ≤ rows.length) (hr : fzSRows g n ((rows.drop off).take len) = some rows') : fzS g (n + 1) (.own id off len) = some (.sl rows') := by
  rw [fzS]; simp only [h, if_true, if_pos hl, hr, Option.map_some]
theorem fzSRow_nil (g : Rows) (n : Nat) : fzSRow g n [] = some [] := by rw [fzSRow]
theorem fzSRow_cons (g : Rows) (n : Nat) (a : AV) (l : List AV) : fzSRow g n (a :: l) = match fzS g n a with
    | some b => (fzSRow g n l).map (b :: ·)
    | none => none := by rw [fzSRow]; cases fzS g n a <;> rfl
theorem fzSRows_all {g : Rows} {n : Nat} : ∀ {l : List (List AV)}, (∀ c ∈ l, fzSRow g n c = some c) → fzSRows g n l = some l
  | [], _ => by rw [fzSRows]
  | c :: r, h => by rw [fzSRows, h c (by simp), fzSRows_all fun d hd => h d (List.mem_cons_of_mem _ hd)]; rfl
theorem fz_agg (g : Rows) (n : Nat) (l : List AV) : fz g (n + 1) (.agg l) = (fzRow g n l).map AV.agg := by rw [fz]
theorem fz_iptr (g : Rows) (n : Nat) (l : List AV) : fz g (n + 1) (.iptr l) = some (.iptr l) := by rw [fz] <;> intros <;> simp_all
theorem fzRow_nil (g : Rows) (n : Nat) : fzRow g n [] = some [] := by rw [fzRow]
theorem fzRow_cons (g : Rows) (n : Nat) (a : AV) (l : List AV) : fzRow g n (a :: l) = match fz g n a with
    | some b => (fzRow g n l).map (b :: ·)
    | none => none := by rw [fzRow]; cases fz g n a <;> rfl

theorem ret1S {t : Nat} {r r0 : AV} {x : Ex} (hx : x = .ret ∨ x = .normal) (he : env t = r0) (hz : fzS σ.get 6 r0 = some r) : retQ [.tmp t] (fun r0 σ' => ∃ r', fzS σ'.get 6 r0 = some r' ∧ r' = r) x env σ := by
  have : ∃ vs, vresL env σ.get [.tmp t] = some vs ∧ ∃ r', fzS σ.get 6 (tupOf vs) = some r' ∧ r' = r := ⟨[env t], rfl, r, by subst he; exact hz, rfl⟩
  rcases hx with rfl | rfl
  · exact this
  · exact this
theorem ret1Sb {t : Nat} {b c : Bool} {x : Ex} (hx : x = .ret ∨ x = .normal) (he : env t = .bool b) (hb : b = c) : retQ [.tmp t] (fun r0 σ' => ∃ r', fzS σ'.get 6 r0 = some r' ∧ r' = .bool c) x env σ := ret1S hx he (by rw [fzS_bool, hb])
theorem ret1Si {t : Nat} {k : IntKind} {b c : Int} {x : Ex} (hx : x = .ret ∨ x = .normal) (he : env t = .int k b) (hb : b = c) : retQ [.tmp t] (fun r0 σ' => ∃ r', fzS σ'.get 6 r0 = some r' ∧ r' = .int k c) x env σ := ret1S hx he (by rw [fzS_int, hb])
/-- Two results. -/
theorem ret2S {t u : Nat} {r r1 r2 : AV} {x : Ex} (hx : x = .ret ∨ x = .normal) (h1 : env t = r1) (h2 : env u = r2) (hz : fzS σ.get 6 (.tup [r1, r2]) = some r) : retQ [.tmp t, .tmp u] (fun r0 σ' => ∃ r', fzS σ'.get 6 r0 = some r' ∧ r' = r) x env σ := by
  have : ∃ vs, vresL env σ.get [.tmp t, .tmp u] = some vs ∧ ∃ r', fzS σ.get 6 (tupOf vs) = some r' ∧ r' = r := ⟨[env t, env u], rfl, r, by subst h1; subst h2; exact hz, rfl⟩
  rcases hx with rfl | rfl
  · exact this
  · exact this

/-! ### The walk itself
What the walk leaves to be shown is R: the argument 'h' is proved by the script that stands there (each time anew, with the facts 'a'). -/
structure Pn (p : Prop) : Prop where
  out : p
theorem tw {A B : Prop} (a : A) (b : B) : A ∧ B := ⟨a, b⟩
theorem wk {A R G : Prop} (a : A) (r : R) (h : A → R → G := by
    intro fL kk
    (repeat (refine Pn.mk ?_; intro N hN))
    (first | ((first | apply w_seq | apply w_reg); intro N hN) | ((first | (apply w_op; intro N hN) | (apply w_one; intro N hN)); simp only [go_sem, ↓reduceIte, Nat.reduceEqDiff, Nat.reduceAdd, Nat.reduceSub, Nat.reduceMul, Nat.reduceLeDiff, Nat.reduceBEq, reduceCtorEq, Nat.reduceLT, Int.reduceLE, Int.reduceLT, Int.reduceToNat, Int.reduceNeg, Int.reduceAdd, Int.reduceEq, fL]; first | (refine hN _ _ ?_; clear hN N) | skip) | (apply w_condK; (simp only [go_sem, ↓reduceIte, Nat.reduceEqDiff, Nat.reduceAdd, Nat.reduceSub, Nat.reduceMul, Nat.reduceLeDiff, Nat.reduceBEq, reduceCtorEq, Nat.reduceLT, Int.reduceLE, Int.reduceLT, Int.reduceToNat, Int.reduceNeg, Int.reduceAdd, Int.reduceEq, fL]; rfl); first | with_reducible apply CondV.t | with_reducible apply CondV.f) | (apply w_nil; refine hN _ _ ?_; clear hN N; try (simp only [seqQ, blockQ, ↓reduceIte, Nat.reduceEqDiff]); try (refine hN _ _ ?_; clear hN N)) | apply w_block | (refine w_locM ?_ ?_ ?_; (focus (simp only [go_sem, ↓reduceIte, Nat.reduceEqDiff, Nat.reduceAdd, Nat.reduceSub, Nat.reduceMul, Nat.reduceLeDiff, Nat.reduceBEq, reduceCtorEq, Nat.reduceLT, Int.reduceLE, Int.reduceLT, Int.reduceToNat, Int.reduceNeg, Int.reduceAdd, Int.reduceEq, fL]; done)); (focus (simp only [go_sem, ↓reduceIte, Nat.reduceEqDiff, Nat.reduceAdd, Nat.reduceSub, Nat.reduceMul, Nat.reduceLeDiff, Nat.reduceBEq, reduceCtorEq, Nat.reduceLT, Int.reduceLE, Int.reduceLT, Int.reduceToNat, Int.reduceNeg, Int.reduceAdd, Int.reduceEq, fL]; done))) | ((first | apply w_skip | apply w_exit | apply w_ret); try (simp only [seqQ, blockQ, ↓reduceIte, Nat.reduceEqDiff]); try (refine hN _ _ ?_; clear hN N)) | ((first | refine hN _ _ ?_ | (clear hN N; first | refine hN _ _ ?_ | (clear hN N; first | refine hN _ _ ?_ | (clear hN N; first | refine hN _ _ ?_ | (clear hN N; refine hN _ _ ?_))))); clear hN N))
    (repeat (first | ((first | apply w_seq | apply w_reg); intro N hN) | ((first | (apply w_op; intro N hN) | (apply w_one; intro N hN)); simp only [go_sem, ↓reduceIte, Nat.reduceEqDiff, Nat.reduceAdd, Nat.reduceSub, Nat.reduceMul, Nat.reduceLeDiff, Nat.reduceBEq, reduceCtorEq, Nat.reduceLT, Int.reduceLE, Int.reduceLT, Int.reduceToNat, Int.reduceNeg, Int.reduceAdd, Int.reduceEq, fL]; first | (refine hN _ _ ?_; clear hN N) | skip) | (apply w_condK; (simp only [go_sem, ↓reduceIte, Nat.reduceEqDiff, Nat.reduceAdd, Nat.reduceSub, Nat.reduceMul, Nat.reduceLeDiff, Nat.reduceBEq, reduceCtorEq, Nat.reduceLT, Int.reduceLE, Int.reduceLT, Int.reduceToNat, Int.reduceNeg, Int.reduceAdd, Int.reduceEq, fL]; rfl); first | with_reducible apply CondV.t | with_reducible apply CondV.f) | (apply w_nil; refine hN _ _ ?_; clear hN N; try (simp only [seqQ, blockQ, ↓reduceIte, Nat.reduceEqDiff]); try (refine hN _ _ ?_; clear hN N)) | apply w_block | (refine w_locM ?_ ?_ ?_; (focus (simp only [go_sem, ↓reduceIte, Nat.reduceEqDiff, Nat.reduceAdd, Nat.reduceSub, Nat.reduceMul, Nat.reduceLeDiff, Nat.reduceBEq, reduceCtorEq, Nat.reduceLT, Int.reduceLE, Int.reduceLT, Int.reduceToNat, Int.reduceNeg, Int.reduceAdd, Int.reduceEq, fL]; done)); (focus (simp only [go_sem, ↓reduceIte, Nat.reduceEqDiff, Nat.reduceAdd, Nat.reduceSub, Nat.reduceMul, Nat.reduceLeDiff, Nat.reduceBEq, reduceCtorEq, Nat.reduceLT, Int.reduceLE, Int.reduceLT, Int.reduceToNat, Int.reduceNeg, Int.reduceAdd, Int.reduceEq, fL]; done))) | ((first | apply w_skip | apply w_exit | apply w_ret); try (simp only [seqQ, blockQ, ↓reduceIte, Nat.reduceEqDiff]); try (refine hN _ _ ?_; clear hN N)) | ((first | refine hN _ _ ?_ | (clear hN N; first | refine hN _ _ ?_ | (clear hN N; first | refine hN _ _ ?_ | (clear hN N; first | refine hN _ _ ?_ | (clear hN N; refine hN _ _ ?_))))); clear hN N)))
    (repeat (revert hN; revert N; apply Pn.out))
    exact kk) : G := h a r
theorem wa {A R G : Prop} (a : A) (r : R) (h : A → R → G := by
    intro fL kk
    (repeat (refine Pn.mk ?_; intro N hN))
    (first | ((first | apply w_seq | apply w_reg); intro N hN) | ((first | (refine w_opN rfl fun N hN => ?_) | (apply w_one; intro N hN)); simp only [go_sem, ↓reduceIte, Nat.reduceEqDiff, Nat.reduceAdd, Nat.reduceSub, Nat.reduceMul, Nat.reduceLeDiff, Nat.reduceBEq, reduceCtorEq, Nat.reduceLT, Int.reduceLE, Int.reduceLT, Int.reduceToNat, Int.reduceNeg, Int.reduceAdd, Int.reduceEq, fL]; first | (refine hN _ _ ?_; clear hN N) | skip) | (apply w_condK; (simp only [go_sem, ↓reduceIte, Nat.reduceEqDiff, Nat.reduceAdd, Nat.reduceSub, Nat.reduceMul, Nat.reduceLeDiff, Nat.reduceBEq, reduceCtorEq, Nat.reduceLT, Int.reduceLE, Int.reduceLT, Int.reduceToNat, Int.reduceNeg, Int.reduceAdd, Int.reduceEq, fL]; rfl); first | with_reducible apply CondV.t | with_reducible apply CondV.f) | (apply w_nil; refine hN _ _ ?_; clear hN N; try (simp only [seqQ, blockQ, ↓reduceIte, Nat.reduceEqDiff]); try (refine hN _ _ ?_; clear hN N)) | apply w_block | (refine w_locM ?_ ?_ ?_; (focus (simp only [go_sem, ↓reduceIte, Nat.reduceEqDiff, Nat.reduceAdd, Nat.reduceSub, Nat.reduceMul, Nat.reduceLeDiff, Nat.reduceBEq, reduceCtorEq, Nat.reduceLT, Int.reduceLE, Int.reduceLT, Int.reduceToNat, Int.reduceNeg, Int.reduceAdd, Int.reduceEq, fL]; done)); (focus (simp only [go_sem, ↓reduceIte, Nat.reduceEqDiff, Nat.reduceAdd, Nat.reduceSub, Nat.reduceMul, Nat.reduceLeDiff, Nat.reduceBEq, reduceCtorEq, Nat.reduceLT, Int.reduceLE, Int.reduceLT, Int.reduceToNat, Int.reduceNeg, Int.reduceAdd, Int.reduceEq, fL]; done))) | ((first | apply w_skip | apply w_exit | apply w_ret); try (simp only [seqQ, blockQ, ↓reduceIte, Nat.reduceEqDiff]); try (refine hN _ _ ?_; clear hN N)) | ((first | refine hN _ _ ?_ | (clear hN N; first | refine hN _ _ ?_ | (clear hN N; first | refine hN _ _ ?_ | (clear hN N; first | refine hN _ _ ?_ | (clear hN N; refine hN _ _ ?_))))); clear hN N))
    (repeat (first | ((first | apply w_seq | apply w_reg); intro N hN) | ((first | (refine w_opN rfl fun N hN => ?_) | (apply w_one; intro N hN)); simp only [go_sem, ↓reduceIte, Nat.reduceEqDiff, Nat.reduceAdd, Nat.reduceSub, Nat.reduceMul, Nat.reduceLeDiff, Nat.reduceBEq, reduceCtorEq, Nat.reduceLT, Int.reduceLE, Int.reduceLT, Int.reduceToNat, Int.reduceNeg, Int.reduceAdd, Int.reduceEq, fL]; first | (refine hN _ _ ?_; clear hN N) | skip) | (apply w_condK; (simp only [go_sem, ↓reduceIte, Nat.reduceEqDiff, Nat.reduceAdd, Nat.reduceSub, Nat.reduceMul, Nat.reduceLeDiff, Nat.reduceBEq, reduceCtorEq, Nat.reduceLT, Int.reduceLE, Int.reduceLT, Int.reduceToNat, Int.reduceNeg, Int.reduceAdd, Int.reduceEq, fL]; rfl); first | with_reducible apply CondV.t | with_reducible apply CondV.f) | (apply w_nil; refine hN _ _ ?_; clear hN N; try (simp only [seqQ, blockQ, ↓reduceIte, Nat.reduceEqDiff]); try (refine hN _ _ ?_; clear hN N)) | apply w_block | (refine w_locM ?_ ?_ ?_; (focus (simp only [go_sem, ↓reduceIte, Nat.reduceEqDiff, Nat.reduceAdd, Nat.reduceSub, Nat.reduceMul, Nat.reduceLeDiff, Nat.reduceBEq, reduceCtorEq, Nat.reduceLT, Int.reduceLE, Int.reduceLT, Int.reduceToNat, Int.reduceNeg, Int.reduceAdd, Int.reduceEq, fL]; done)); (focus (simp only [go_sem, ↓reduceIte, Nat.reduceEqDiff, Nat.reduceAdd, Nat.reduceSub, Nat.reduceMul, Nat.reduceLeDiff, Nat.reduceBEq, reduceCtorEq, Nat.reduceLT, Int.reduceLE, Int.reduceLT, Int.reduceToNat, Int.reduceNeg, Int.reduceAdd, Int.reduceEq, fL]; done))) | ((first | apply w_skip | apply w_exit | apply w_ret); try (simp only [seqQ, blockQ, ↓reduceIte, Nat.reduceEqDiff]); try (refine hN _ _ ?_; clear hN N)) | ((first | refine hN _ _ ?_ | (clear hN N; first | refine hN _ _ ?_ | (clear hN N; first | refine hN _ _ ?_ | (clear hN N; first | refine hN _ _ ?_ | (clear hN N; refine hN _ _ ?_))))); clear hN N)))
    (repeat (revert hN; revert N; apply Pn.out))
    exact kk) : G := h a r
theorem sd {A G : Prop} (a : A) (h : A → G := by
    intro fL
    first | (simp only [go_sem, ↓reduceIte, Nat.reduceEqDiff, Nat.reduceAdd, Nat.reduceSub, Nat.reduceMul, Nat.reduceLeDiff, Nat.reduceBEq, reduceCtorEq, Nat.reduceLT, Int.reduceLE, Int.reduceLT, Int.reduceToNat, Int.reduceNeg, Int.reduceAdd, Int.reduceEq, fL]; done) | fail) : G := h a

end Go.Proofs.YtpbniieiinhliaaGreat.V

namespace Go.Proofs.YtpbniieiinhliaaGreat.V
open Go.RowKit

variable {P : Program} {X : CallP} {env : Env} {σ : Store}

theorem fz_fn (g : Rows) (n : Nat) (f : Nat) (l : List AV) : fz g (n + 1) (.fn f l) = if l.all AV.cell then (fzRow g n l).map (AV.fn f) else none := by rw [fz]
theorem fz_ptrE (g : Rows) (n : Nat) (id : Id) (i off : Nat) : fz g (n + 1) (.ptr id i off) = match g id with
    | some r => if r.w then (match r.rows[i]? with
      | some cs => (fzRow g n (cs.drop off)).map AV.iptr
      | none => none) else none
    | none => none := by rw [fz]; rfl
theorem fz_ownE (g : Rows) (n : Nat) (id : Id) (off len : Nat) : fz g (n + 1) (.own id off len) = match g id with
    | some r => if r.w then (if off + len ≤ r.rows.length then (fzRows g n ((r.rows.drop off).take len)).map AV.sl else none) else none
    | none => none := by rw [fz]; rfl
theorem fzRows_all {g : Rows} {n : Nat} : ∀ {l : List (List AV)}, (∀ c ∈ l, fzRow g n c = some c) → fzRows g n l = some l
  | [], _ => by rw [fzRows]
  | c :: r, h => by rw [fzRows, h c (by simp), fzRows_all fun d hd => h d (List.mem_cons_of_mem _ hd)]; rfl
theorem fzRows_map {α : Type} {g : Rows} {n : Nat} {e : α → List AV} {l : List α} (h : ∀ x, fzRow g n (e x) = some (e x)) : fzRows g n (l.map e) = some (l.map e) := fzRows_all fun c hc => by
  obtain ⟨x, _, rfl⟩ := List.mem_map.1 hc
  exact h x
theorem fzSRows_map {α : Type} {g : Rows} {n : Nat} {e : α → List AV} {l : List α} (h : ∀ x, fzSRow g n (e x) = some (e x)) : fzSRows g n (l.map e) = some (l.map e) := fzSRows_all fun c hc => by
  obtain ⟨x, _, rfl⟩ := List.mem_map.1 hc
  exact h x
theorem fz_own_map {α : Type} {g : Rows} {n : Nat} {e : α → List AV} {l : List α} {id : Id} {sz len : Nat} (hg : g id = some ⟨true, sz, l.map e⟩) (hl : len = l.length) (h : ∀ x, fzRow g n (e x) = some (e x)) : fz g (n + 1) (.own id 0 len) = some (.sl (l.map e)) := by
  subst hl
  rw [fz_ownE]; simp only [hg, if_true]
  rw [if_pos (by simp), List.drop_zero, List.take_of_length_le (by simp), fzRows_map h]; rfl
theorem fzS_own_map {α : Type} {g : Rows} {n : Nat} {e : α → List AV} {l : List α} {id : Id} {sz len : Nat} (hg : g id = some ⟨true, sz, l.map e⟩) (hl : len = l.length) (h : ∀ x, fzSRow g n (e x) = some (e x)) : fzS g (n + 1) (.own id 0 len) = some (.sl (l.map e)) := by
  subst hl
  exact fzS_own hg (by simp) (by rw [List.drop_zero, List.take_of_length_le (by simp), fzSRows_map h])
theorem all_map {α : Type} {e : α → List AV} {sz : Nat} {l : List α} (h : ∀ x, (e x).length = sz ∧ (e x).all AV.cell = true) : (l.map e).all (fun c => c.length == sz && c.all AV.cell) = true := by
  rw [List.all_eq_true]
  intro c hc
  obtain ⟨x, _, rfl⟩ := List.mem_map.1 hc
  simp [(h x).1, (h x).2]

/-- A function that sees its arguments by value and makes a row of plain values. -/
def RowM (P : Program) (f : Nat) (args : List AV) (sz : Nat) (rows : List (List AV)) : Prop := (∀ c ∈ rows, ∀ a ∈ c, a.plain = true) ∧ ∀ n : Nat, Call P f args ⟨fun _ => none, n⟩ fun r σ' => ∃ id, r = .own id 0 rows.length ∧ σ'.get id = some ⟨true, sz, rows⟩
theorem RowM.x {f sz : Nat} {args args' : List AV} {rows : List (List AV)} (h : RowM P f args' sz rows) {σ : Store} (hv : fzRow (rw_ σ.get) 6 args = some args') : CM (Call P) f args σ sz rows := ⟨h.1, args', hv, h.2 _⟩

/-- Any results. -/
theorem retG {res : List VRes} {r : AV} {vs : List AV} {x : Ex} (hx : x = .ret ∨ x = .normal) (hv : vresL env σ.get res = some vs) (hz : fz σ.get 6 (tupOf vs) = some r) : retQ res (fun r0 σ' => ∃ r', fz σ'.get 6 r0 = some r' ∧ r' = r) x env σ := by
  rcases hx with rfl | rfl
  · exact ⟨vs, hv, r, hz, rfl⟩
  · exact ⟨vs, hv, r, hz, rfl⟩
theorem retGS {res : List VRes} {r : AV} {vs : List AV} {x : Ex} (hx : x = .ret ∨ x = .normal) (hv : vresL env σ.get res = some vs) (hz : fzS σ.get 6 (tupOf vs) = some r) : retQ res (fun r0 σ' => ∃ r', fzS σ'.get 6 r0 = some r' ∧ r' = r) x env σ := by
  rcases hx with rfl | rfl
  · exact ⟨vs, hv, r, hz, rfl⟩
  · exact ⟨vs, hv, r, hz, rfl⟩
/-- An open call's results. -/
theorem retO {res : List VRes} {K : AV → Store → Prop} {vs : List AV} {x : Ex} (hx : x = .ret ∨ x = .normal) (hv : vresL env σ.get res = some vs) (hK : K (tupOf vs) σ) : retQ res K x env σ := by
  rcases hx with rfl | rfl
  · exact ⟨vs, hv, hK⟩
  · exact ⟨vs, hv, hK⟩
theorem CallB {f : Nat} {args : List AV} {σ : Store} {K : AV → Store → Prop} {nt na : Nat} {body : VC} {res : List VRes} (hf : cFn P f = some ⟨nt, na, body, res⟩) (ha : na = args.length) (h : (∀ a ∈ args, Legal a) → wpv (Call P) body (retQ res K) (envOf args) σ) : Call P f args σ K := Call_body hf ha h
theorem CallBM {f : Nat} {md : List (Nat × Nat)} {args : List AV} {σ : Store} {K : AV → Store → Prop} {nt na : Nat} {body : VC} {res : List VRes} (hf : cFnM P f md = some ⟨nt, na, body, res⟩) (ha : na = args.length) (h : (∀ a ∈ args, Legal a) → wpv (Call P) body (retQ res K) (envOf args) σ) : Call P f args σ K := Call_bodyM hf ha h

/-! ### Rows made in a call -/
/-- Of another time. -/
theorem vne {i : Id} {n : Nat} (h : i.ver < n) : (∀ s, (i = ⟨s, n⟩) = False ∧ (i = ⟨s, n + 1⟩) = False ∧ (i = ⟨s, n + 1 + 1⟩) = False ∧ (i = ⟨s, n + 1 + 1 + 1⟩) = False ∧ (i = ⟨s, n + 1 + 1 + 1 + 1⟩) = False ∧ (i = ⟨s, n + 1 + 1 + 1 + 1 + 1⟩) = False ∧ (i = ⟨s, n + 1 + 1 + 1 + 1 + 1 + 1⟩) = False ∧ (i = ⟨s, n + 1 + 1 + 1 + 1 + 1 + 1 + 1⟩) = False ∧ (i = ⟨s, n + 1 + 1 + 1 + 1 + 1 + 1 + 1 + 1⟩) = False ∧ (i = ⟨s, n + 1 + 1 + 1 + 1 + 1 + 1 + 1 + 1 + 1⟩) = False ∧ (⟨s, n⟩ = i) = False ∧ (⟨s, n + 1⟩ = i) = False ∧ (⟨s, n + 1 + 1⟩ = i) = False ∧ (⟨s, n + 1 + 1 + 1⟩ = i) = False ∧ (⟨s, n + 1 + 1 + 1 + 1⟩ = i) = False ∧ (⟨s, n + 1 + 1 + 1 + 1 + 1⟩ = i) = False ∧ (⟨s, n + 1 + 1 + 1 + 1 + 1 + 1⟩ = i) = False ∧ (⟨s, n + 1 + 1 + 1 + 1 + 1 + 1 + 1⟩ = i) = False ∧ (⟨s, n + 1 + 1 + 1 + 1 + 1 + 1 + 1 + 1⟩ = i) = False ∧ (⟨s, n + 1 + 1 + 1 + 1 + 1 + 1 + 1 + 1 + 1⟩ = i) = False) ∧ (i.ver = n) = False ∧ (i.ver = n + 1) = False ∧ (i.ver = n + 1 + 1) = False ∧ (i.ver = n + 1 + 1 + 1) = False ∧ (i.ver = n + 1 + 1 + 1 + 1) = False ∧ (i.ver = n + 1 + 1 + 1 + 1 + 1) = False ∧ (i.ver = n + 1 + 1 + 1 + 1 + 1 + 1) = False ∧ (i.ver = n + 1 + 1 + 1 + 1 + 1 + 1 + 1) = False ∧ (i.ver = n + 1 + 1 + 1 + 1 + 1 + 1 + 1 + 1) = False ∧ (i.ver = n + 1 + 1 + 1 + 1 + 1 + 1 + 1 + 1 + 1) = False := by
  refine ⟨fun s => ?_, ?_⟩
  · obtain ⟨a, b⟩ := i
    simp only [Id.mk.injEq, eq_iff_iff, iff_false, not_and]
    simp only at h
    refine ⟨?_, ?_, ?_, ?_, ?_, ?_, ?_, ?_, ?_, ?_, ?_, ?_, ?_, ?_, ?_, ?_, ?_, ?_, ?_, ?_⟩ <;> (intros; omega)
  · simp only [eq_iff_iff, iff_false]
    refine ⟨?_, ?_, ?_, ?_, ?_, ?_, ?_, ?_, ?_, ?_⟩ <;> omega
def NewIds (a b : Nat) (ids : List Id) : Prop := ids.Nodup ∧ ∀ i ∈ ids, a ≤ i.ver ∧ i.ver < b
/-- What was there is as it was. -/
def Kept (σ σ' : Store) : Prop := σ.next ≤ σ'.next ∧ ∀ j : Id, j.ver < σ.next → σ'.get j = σ.get j
theorem Kept.trans {a b c : Store} (h : Kept a b) (k : Kept b c) : Kept a c := ⟨Nat.le_trans h.1 k.1, fun j hj => (k.2 j (Nat.lt_of_lt_of_le hj h.1)).trans (h.2 j hj)⟩
theorem NewIds.wide {a b a' b' : Nat} {ids : List Id} (h : NewIds a b ids) (h1 : a' ≤ a) (h2 : b ≤ b') : NewIds a' b' ids := ⟨h.1, fun i hi => ⟨Nat.le_trans h1 (h.2 i hi).1, Nat.lt_of_lt_of_le (h.2 i hi).2 h2⟩⟩
theorem NewIds.app {a b c d : Nat} {i j : List Id} (h : NewIds a b i) (k : NewIds c d j) (hbc : b ≤ c) (hab : a ≤ b) (hcd : c ≤ d) : NewIds a d (i ++ j) :=
  ⟨List.nodup_append.2 ⟨h.1, k.1, fun x hx y hy e => by subst e; have := (h.2 x hx).2; have := (k.2 x hy).1; omega⟩, fun x hx => by
    rcases List.mem_append.1 hx with hx | hx
    · have := h.2 x hx; omega
    · have := k.2 x hx; omega⟩
end Go.Proofs.YtpbniieiinhliaaGreat.V

namespace Go.Proofs.YtpbniieiinhliaaGreat.V
open Go.RowKit

def isApp : VOp → Bool
  | .append .. => true
  | _ => false
variable {P : Program} {X : CallP} {K : Env → Store → Prop} {env : Env} {σ : Store}
theorem w_opN {draw : Bool} {o : VOper} {r : List VOper} (_ : isApp o.op = false) (h : ∀ N : AV → Store → Prop, (∀ v s, wpOps X draw r K (upd env o.dst v) s → N v s) → if wantedV o.guard env then vop X draw o env σ N else N .undef σ) : wpOps X draw (o :: r) K env σ := w_op h

def OutG {α : Type} (enc : α → List AV) (sz : Nat) (x : AV) (g : Rows) (S : Nat → Prop) (L : List α) : Prop := (L = [] ∧ x = .nils) ∨ ∃ o : Id, S o.site ∧ 0 < L.length ∧ x = .own o 0 L.length ∧ g o = some ⟨true, sz, L.map enc⟩
theorem OutG.cast {α : Type} {enc : α → List AV} {sz : Nat} {x : AV} {g : Rows} {S : Nat → Prop} {L L' : List α} (h : OutG enc sz x g S L) (hL : L' = L) : OutG enc sz x g S L' := by subst hL; exact h
theorem OutG.frame {α : Type} {enc : α → List AV} {sz : Nat} {x : AV} {g g' : Rows} {S : Nat → Prop} {L : List α} (h : OutG enc sz x g S L) (hg : ∀ o : Id, S o.site → g' o = g o) : OutG enc sz x g' S L := by
  rcases h with h | ⟨o, h1, h2, h3, h4⟩
  · exact .inl h
  · exact .inr ⟨o, h1, h2, h3, by rw [hg o h1]; exact h4⟩
theorem OutG.nil {α : Type} {enc : α → List AV} {sz : Nat} {g : Rows} {S : Nat → Prop} : OutG enc sz .nils g S ([] : List α) := .inl ⟨rfl, rfl⟩
theorem OutG.app {α : Type} {enc : α → List AV} {sz : Nat} {x : AV} {g : Rows} {S : Nat → Prop} {L : List α} (hz : ∀ a, (enc a).length = sz ∧ (enc a).all AV.cell = true) (h : OutG enc sz x g S L) (id : Id) (hid : S id.site) (M : List α) (hlen : L.length + M.length ≤ most) :
    ∃ v g', vappend g id sz x (M.map enc) = some (v, g') ∧ OutG enc sz v g' S (L ++ M) ∧ ∀ j : Id, ¬ S j.site → g' j = g j := by
  rcases h with ⟨rfl, rfl⟩ | ⟨o, h1, h2, rfl, h4⟩
  · cases M with
    | nil => exact ⟨.nils, g, rfl, .inl ⟨rfl, rfl⟩, fun _ _ => rfl⟩
    | cons a M =>
      refine ⟨.own id 0 (a :: M).length, setR g id ⟨true, sz, (a :: M).map enc⟩, ?_, .inr ⟨id, hid, by simp, by simp, by simp [setR]⟩, fun j hj => ?_⟩
      · have ha := all_map (l := a :: M) hz
        simp only [List.map_cons] at ha
        simp only [vappend, List.map_cons]
        rw [if_pos ⟨by simp at hlen ⊢; omega, ha⟩]
        simp
      · have : ¬ j = id := fun h => hj (h ▸ hid)
        simp [setR, this]
  · refine ⟨.own id 0 (L.length + (M.map enc).length), setR (killR g o) id ⟨true, sz, L.map enc ++ M.map enc⟩, ?_, .inr ⟨id, hid, by simp; omega, by simp, by simp [setR]⟩, fun j hj => ?_⟩
    · have ha := all_map (l := M) hz
      simp only [vappend, h4, Option.bind_some]
      rw [if_pos ⟨trivial, trivial, by simp, by simpa using hlen, ha⟩]
    · have e1 : ¬ j = id := fun h => hj (h ▸ hid)
      have e2 : ¬ j = o := fun h => hj (h ▸ h1)
      simp [setR, killR, e1, e2]
/-- An append to a slice that grows. -/
theorem w_appG {α : Type} {enc : α → List AV} {S : Nat → Prop} {L : List α} {draw : Bool} {o : VOper} {r : List VOper} {sz : Nat} {x y : O} {xv : AV} (M : List α) (ho : o.op = .append sz x y) (hw : wantedV o.guard env = true) (hx : evO env x = xv) (hO : OutG enc sz xv σ.get S L)
    (hy : rowsIn σ.get (evO env y) = some (M.map enc)) (hz : ∀ a, (enc a).length = sz ∧ (enc a).all AV.cell = true) (hid : S o.site) (hlen : L.length + M.length ≤ most)
    (next : ∀ v g', OutG enc sz v g' S (L ++ M) → (∀ j : Id, ¬ S j.site → g' j = σ.get j) → wpOps X draw r K (upd env o.dst v) ⟨g', σ.next⟩) : wpOps X draw (o :: r) K env σ := by
  obtain ⟨v, g', h1, h2, h3⟩ := hO.app hz ⟨o.site, σ.next⟩ hid M hlen
  unfold wpOps
  rw [if_pos hw]
  unfold vop
  simp only [ho, eop, hy, hx, Option.bind_some, h1]
  exact next v g' h2 h3
theorem rowsIn_slN {g : Rows} (rows : List (List AV)) : rowsIn g (if rows = [] then .nils else .sl rows) = some rows := by
  split
  · rename_i h; subst h; rfl
  · rfl
end Go.Proofs.YtpbniieiinhliaaGreat.V

namespace Go.Proofs.YtpbniieiinhliaaGreat.V
open Go.RowKit

/-- A list of one's own: a row of its own; the empty one may be a slice of nothing. -/
def OL {α : Type} (enc : α → List AV) (sz : Nat) (g : Rows) (a : AV) (xs : List α) (ids : List Id) : Prop :=
  (∃ id, a = .own id 0 xs.length ∧ g id = some ⟨true, sz, xs.map enc⟩ ∧ ids = [id]) ∨ (xs = [] ∧ a = .sl [] ∧ ids = [])
section
variable {α : Type} {enc : α → List AV} {sz : Nat} {g g' : Rows} {a : AV} {xs : List α} {ids : List Id}
theorem OL.frame (h : OL enc sz g a xs ids) (hf : ∀ i ∈ ids, g' i = g i) : OL enc sz g' a xs ids := by
  rcases h with ⟨id, h1, h2, rfl⟩ | h
  · exact .inl ⟨id, h1, (hf id (by simp)).trans h2, rfl⟩
  · exact .inr h
theorem OL.pos (h : OL enc sz g a xs ids) (hp : 0 < xs.length) : ∃ id, a = .own id 0 xs.length ∧ g id = some ⟨true, sz, xs.map enc⟩ ∧ ids = [id] := by
  rcases h with h | ⟨rfl, _⟩
  · exact h
  · simp at hp
theorem OL.cell (h : OL enc sz g a xs ids) : a.cell = true := by
  rcases h with ⟨id, rfl, _⟩ | ⟨_, rfl, _⟩ <;> rfl
theorem OL.live (h : OL enc sz g a xs ids) : ∀ i ∈ ids, ∃ r, g i = some r ∧ r.w = true := by
  rcases h with ⟨id, _, h2, rfl⟩ | ⟨_, _, rfl⟩
  · intro i hi; have : i = id := by simpa using hi
    subst this; exact ⟨_, h2, rfl⟩
  · intro i hi; cases hi
theorem OL.one (id : Id) (h : g id = some ⟨true, sz, xs.map enc⟩) : OL enc sz g (.own id 0 xs.length) xs [id] := .inl ⟨id, rfl, h, rfl⟩
theorem OL.none : OL enc sz g (.sl []) ([] : List α) [] := .inr ⟨rfl, rfl, rfl⟩
theorem OL.fz {n : Nat} (h : OL enc sz g a xs ids) (he : ∀ x, fzRow (rw_ g) n (enc x) = some (enc x)) : fz (rw_ g) (n + 1) a = some (.sl (xs.map enc)) := by
  rcases h with ⟨id, rfl, h2, rfl⟩ | ⟨rfl, rfl, _⟩
  · exact fz_own_map (e := enc) (sz := sz) (by simp [rw_, h2]) rfl he
  · exact fz_sl _ _ _
theorem OL.fzS {n : Nat} (h : OL enc sz g a xs ids) (hp : 0 < xs.length) (he : ∀ x, fzSRow g n (enc x) = some (enc x)) : fzS g (n + 1) a = some (.sl (xs.map enc)) := by
  obtain ⟨id, rfl, h2, rfl⟩ := h.pos hp
  exact fzS_own_map (e := enc) (sz := sz) h2 rfl he
end

/-- What an element's cells are, and the rows of its own. -/
abbrev ElO (α : Type) := Rows → List AV → α → List Id → Prop
structure ElOk {α : Type} (R : ElO α) (sz : Nat) : Prop where
  frame : ∀ {g g' : Rows} {cs x ids}, R g cs x ids → (∀ i ∈ ids, g' i = g i) → R g' cs x ids
  len : ∀ {g cs x ids}, R g cs x ids → cs.length = sz
  cell : ∀ {g cs x ids}, R g cs x ids → cs.all AV.cell = true
  live : ∀ {g cs x ids}, R g cs x ids → ∀ i ∈ ids, ∃ r, g i = some r ∧ r.w = true

inductive RowsN {α : Type} (R : ElO α) (g : Rows) : List (List AV) → List α → List Id → Prop
  | nil : RowsN R g [] [] []
  | cons {cs x i1 rs xs i2} : R g cs x i1 → RowsN R g rs xs i2 → RowsN R g (cs :: rs) (x :: xs) (i1 ++ i2)

section
variable {α : Type} {R : ElO α} {sz : Nat} {g g' : Rows} {rows r1 r2 : List (List AV)} {xs x1 x2 : List α} {ids i1 i2 : List Id}
theorem RowsN.len (h : RowsN R g rows xs ids) : rows.length = xs.length := by
  induction h with
  | nil => rfl
  | cons _ _ ih => simp [ih]
theorem RowsN.frame (ok : ElOk R sz) (h : RowsN R g rows xs ids) (hf : ∀ i ∈ ids, g' i = g i) : RowsN R g' rows xs ids := by
  induction h with
  | nil => exact .nil
  | cons h1 _ ih => exact .cons (ok.frame h1 fun i hi => hf i (List.mem_append_left _ hi)) (ih fun i hi => hf i (List.mem_append_right _ hi))
theorem RowsN.live (ok : ElOk R sz) (h : RowsN R g rows xs ids) : ∀ i ∈ ids, ∃ r, g i = some r ∧ r.w = true := by
  induction h with
  | nil => intro i hi; cases hi
  | cons h1 _ ih =>
    intro i hi
    rcases List.mem_append.1 hi with hi | hi
    · exact ok.live h1 i hi
    · exact ih i hi
theorem RowsN.all (ok : ElOk R sz) (h : RowsN R g rows xs ids) : rows.all (fun c => c.length == sz && c.all AV.cell) = true := by
  induction h with
  | nil => rfl
  | cons h1 _ ih => rw [List.all_cons, ih, ok.len h1, ok.cell h1]; simp
theorem RowsN.app (h1 : RowsN R g r1 x1 i1) (h2 : RowsN R g r2 x2 i2) : RowsN R g (r1 ++ r2) (x1 ++ x2) (i1 ++ i2) := by
  induction h1 with
  | nil => exact h2
  | cons h _ ih => rw [List.append_assoc]; exact .cons h ih
theorem RowsN.one {cs : List AV} {x : α} (h : R g cs x ids) : RowsN R g [cs] [x] ids := by
  have := RowsN.cons h RowsN.nil
  rwa [List.append_nil] at this
theorem RowsN.split (h : RowsN R g rows xs ids) : ∀ k (hk : k < xs.length), ∃ r1 cs r2 i1 ic i2, rows = r1 ++ cs :: r2 ∧ r1.length = k ∧ ids = i1 ++ (ic ++ i2) ∧ RowsN R g r1 (xs.take k) i1 ∧ R g cs xs[k] ic ∧ RowsN R g r2 (xs.drop (k + 1)) i2 := by
  induction h with
  | nil => intro k hk; simp at hk
  | cons h1 h2 ih =>
    rename_i cs x j1 rs xs j2
    intro k hk
    cases k with
    | zero => exact ⟨[], cs, rs, [], j1, j2, rfl, rfl, rfl, .nil, h1, h2⟩
    | succ k =>
      obtain ⟨r1, cs', r2, i1, ic, i2, rfl, hl, rfl, h3, h4, h5⟩ := ih k (by simpa using hk)
      exact ⟨cs :: r1, cs', r2, j1 ++ i1, ic, i2, rfl, by simp [hl], by rw [List.append_assoc], .cons h1 h3, h4, h5⟩
theorem RowsN.at_ (h : RowsN R g rows xs ids) (k : Nat) (hk : k < xs.length) : ∃ cs ic, rows[k]? = some cs ∧ R g cs xs[k] ic ∧ ∀ i ∈ ic, i ∈ ids := by
  obtain ⟨r1, cs, r2, i1, ic, i2, rfl, hl, rfl, h3, h4, h5⟩ := h.split k hk
  refine ⟨cs, ic, by rw [List.getElem?_append_right (by omega)]; simp [hl], h4, fun i hi => by simp [hi]⟩
theorem RowsN.upto (h : RowsN R g rows xs ids) (k : Nat) (hk : k ≤ xs.length) : ∃ i1 i2, ids = i1 ++ i2 ∧ RowsN R g (rows.take k) (xs.take k) i1 ∧ RowsN R g (rows.drop k) (xs.drop k) i2 := by
  by_cases hkx : k < xs.length
  · obtain ⟨r1, cs, r2, i1, ic, i2, rfl, rfl, rfl, h3, h4, h5⟩ := h.split k hkx
    refine ⟨i1, ic ++ i2, rfl, by simpa using h3, ?_⟩
    have := RowsN.cons h4 h5
    rw [← List.drop_eq_getElem_cons hkx] at this
    simpa using this
  · have e1 : rows.take k = rows := List.take_of_length_le (by rw [h.len]; omega)
    have e2 : rows.drop k = [] := List.drop_of_length_le (by rw [h.len]; omega)
    rw [e1, e2, List.take_of_length_le (show xs.length ≤ k by omega), List.drop_of_length_le (show xs.length ≤ k by omega)]
    exact ⟨ids, [], by simp, h, .nil⟩
/-- An element is written to: its cells stay, its own rows turn. -/
theorem RowsN.put (ok : ElOk R sz) (h : RowsN R g rows xs ids) (hnd : ids.Nodup) (k : Nat) (hk : k < xs.length) : ∃ cs ic, rows[k]? = some cs ∧ R g cs xs[k] ic ∧ ic.Nodup ∧ (∀ i ∈ ic, i ∈ ids) ∧ ∀ (g' : Rows) x', R g' cs x' ic → (∀ i ∈ ids, i ∉ ic → g' i = g i) → RowsN R g' rows (xs.set k x') ids := by
  obtain ⟨r1, cs, r2, i1, ic, i2, rfl, rfl, rfl, h3, h4, h5⟩ := h.split k hk
  obtain ⟨_, n2, n3⟩ := List.nodup_append.1 hnd
  obtain ⟨nc, _, n4⟩ := List.nodup_append.1 n2
  refine ⟨cs, ic, by simp, h4, nc, fun i hi => by simp [hi], fun g' x' hR hf => ?_⟩
  have e : xs.set r1.length x' = xs.take r1.length ++ x' :: xs.drop (r1.length + 1) := by
    rw [List.set_eq_take_append_cons_drop, if_pos hk]
  rw [e]
  refine (h3.frame ok fun i hi => hf i (by simp [hi]) fun hc => n3 i hi i (by simp [hc]) rfl).app (.cons hR (h5.frame ok fun i hi => hf i (by simp [hi]) fun hc => n4 i hc i hi rfl))
theorem RowsN.fz {n : Nat} {e : α → List AV} (h : RowsN R g rows xs ids) (hz : ∀ {cs x ids}, R g cs x ids → fzRow (rw_ g) n cs = some (e x)) : fzRows (rw_ g) n rows = some (xs.map e) := by
  induction h with
  | nil => rw [fzRows]; rfl
  | cons h1 _ ih => rw [fzRows, hz h1, ih]; rfl
end

/-- A list of one's own whose elements have rows of their own. -/
def OwnN {α : Type} (R : ElO α) (sz : Nat) (g : Rows) (a : AV) (xs : List α) (ids : List Id) : Prop :=
  (xs = [] ∧ a = .nils ∧ ids = []) ∨ ∃ o rows is, a = .own o 0 xs.length ∧ g o = some ⟨true, sz, rows⟩ ∧ RowsN R g rows xs is ∧ ids = o :: is
section
variable {α : Type} {R : ElO α} {sz : Nat} {g g' : Rows} {a : AV} {xs : List α} {ids : List Id}
theorem OwnN.frame (ok : ElOk R sz) (h : OwnN R sz g a xs ids) (hf : ∀ i ∈ ids, g' i = g i) : OwnN R sz g' a xs ids := by
  rcases h with h | ⟨o, rows, is, h1, h2, h3, rfl⟩
  · exact .inl h
  · exact .inr ⟨o, rows, is, h1, (hf o (by simp)).trans h2, h3.frame ok fun i hi => hf i (by simp [hi]), rfl⟩
theorem OwnN.live (ok : ElOk R sz) (h : OwnN R sz g a xs ids) : ∀ i ∈ ids, ∃ r, g i = some r ∧ r.w = true := by
  rcases h with ⟨_, _, rfl⟩ | ⟨o, rows, is, _, h2, h3, rfl⟩
  · intro i hi; cases hi
  · intro i hi
    rcases List.mem_cons.1 hi with rfl | hi
    · exact ⟨_, h2, rfl⟩
    · exact h3.live ok i hi
theorem OwnN.fz {n : Nat} {e : α → List AV} (h : OwnN R sz g a xs ids) (hp : 0 < xs.length) (hz : ∀ {cs x ids}, R g cs x ids → fzRow (rw_ g) n cs = some (e x)) : fz (rw_ g) (n + 1) a = some (.sl (xs.map e)) := by
  rcases h with ⟨rfl, _⟩ | ⟨o, rows, is, rfl, h2, h3, rfl⟩
  · simp at hp
  · rw [fz_ownE]
    simp only [rw_, h2, Option.map_some, if_true]
    rw [if_pos (by rw [h3.len]; omega), List.drop_zero, List.take_of_length_le (by rw [h3.len]; exact Nat.le_refl _), h3.fz hz]; rfl
end

end Go.Proofs.YtpbniieiinhliaaGreat.V
