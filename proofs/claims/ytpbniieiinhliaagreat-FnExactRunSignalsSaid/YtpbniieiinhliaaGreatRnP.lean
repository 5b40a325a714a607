/- slices.Insert of one element, at elements of some cells: the four roads of the library's text. -/
import Derived.Test.YtpbniieiinhliaaGreatRnG
import Derived.Test.YtpbniieiinhliaaGreatRnB
import Derived.Shelf.RegionOpenPlain
import Derived.Lib.Walk
import Derived.Lib.SliceRun
import Derived.Lib.AppendZerosOnto
import Derived.Lib.Overlaps
import Derived.Laws.Externs
import Derived.Laws.IdiomCopy
import Derived.Laws.NewBlocks
import Derived.Test.YtpbniieiinhliaaGreatRnH
import Derived.Test.YtpbniieiinhliaaGreatRnO
import Derived.Test.YtpbniieiinhliaaGreatRnL
import Derived.Test.YtpbniieiinhliaaGreatRnK
set_option linter.unusedVariables false
set_option linter.unusedSimpArgs false
namespace Go.Proofs.YtpbniieiinhliaaGreat
open Go.RowKit Go.Lib
variable {P : Program}

theorem run_copy_k (w : World) (dT sT ty elem : TypeId) (b o dLen dCap : Nat) (a : Addr) (sLen sCap k : Nat) (cs : List Value)
    (hu : P.underlying dT = some (.slice elem)) (hs : (P.info? elem).map (·.size) = some k) (hn : cs.length = Nat.min sLen dLen * k)
    (hsrc : ∀ j v, cs[j]? = some v → w.cell? (a.add j) = some v) (hc : ∀ j, j < cs.length → (w.cell? ⟨b, o + j, none⟩).isSome = true) (hf : ∀ j, j < cs.length → w.frozen? ⟨b, o + j, none⟩ = false) (h1 : ∀ v ∈ cs, v.oneCell' = true) :
    (Builtin.copy_ #[dT, sT] ty #[.slice (some ⟨b, o, none⟩) dLen dCap, .slice (some a) sLen sCap]).run P w = .ok (goInt (Nat.min sLen dLen)) (w.setCells b o cs) := by
  have hl := run_loadCells_list (P := P) w a cs hsrc
  have hst := run_storeCells_cells (P := P) b o cs 0 w (by simpa using hc) (by simpa using hf) h1
  cases hq : P.info? elem with
  | none => simp [hq] at hs
  | some i =>
    have hi : i.size = k := by simpa [hq] using hs
    simp [Builtin.copy_, run_underlying hu, Builtin.lenOf, Builtin.firstCells, sizeOf, typeInfo, hq, hi, ← hn, hl, hst]
theorem wpList_copy_run (w : World) {ops : Array Oper} {rest : List Oper} {o : Oper} {a : Act} {Q : Exit → Act → World → Prop} (hgd : o.guard = none) (d s : Operand) (t t' : TypeId)
    (ho : o.op = .call { callee := .builtin .copy, args := #[d, s], argTypes := #[t, t'] }) (v u : Value) (hd : a.eval d = v) (hs : a.eval s = u) {v' : Value} {w' : World}
    (hr : (Builtin.copy_ #[t, t'] o.type #[v, u]).run P w = .ok v' w') (h : wpList P ops Q rest (a.put o.dst v') w') : wpList P ops Q (o :: rest) a w :=
  wpList_plain hgd fun K hK => by
    unfold Oper.wp execOp
    simp only [ho, resolve, invoke, builtin, Sem.run_bind, Sem.run_pure, Result.andThen_ok, List.map_toArray, List.map_cons, List.map_nil, hd, hs, hr]
    exact hK _ _ h
theorem step_copy_run {ops : Array Oper} {o : Oper} {a : Act} {w : World} {K : Act → World → Prop} {Q : Exit → Act → World → Prop} {E : Prop}
    (hg : o.guard = none) (d x : Operand) (dT sT : TypeId) (hop : o.op = Op.call { callee := Callee.builtin Builtin.copy, args := #[d, x], argTypes := #[dT, sT] })
    (v u : Value) (hd : a.eval d = v) (hx : a.eval x = u) {v' : Value} {w' : World} (hr : (Builtin.copy_ #[dT, sT] o.type #[v, u]).run P w = .ok v' w') (hK : K (a.put o.dst v') w') :
    if Region.wanted o (yielded ops a.tmps) = true then Oper.wp P o a w K Q else E := by
  have hw : Region.wanted o (yielded ops a.tmps) = true := by simp [Region.wanted, hg]
  rw [if_pos hw]
  unfold Oper.wp
  simp [execOp, hop, resolve, invoke, builtin, hd, hx, hr, Result.andThen]
  exact hK
theorem isSome_set (b : Nat) (vs : List Value) (o : Nat) (w : World) (h : ∀ j, j < vs.length → (w.cell? ⟨b, o + j, none⟩).isSome = true) (k : Nat) (hk : (w.cell? ⟨b, k, none⟩).isSome = true) : ((w.setCells b o vs).cell? ⟨b, k, none⟩).isSome = true := by
  by_cases hin : o ≤ k ∧ k < o + vs.length
  · have := World.cell?_setCells_in b vs o w h (k - o) (by omega)
    rw [show o + (k - o) = k by omega] at this
    rw [this]; rfl
  · rw [World.cell?_setCells_out b vs o w ⟨b, k, none⟩ (fun _ _ => by show k < o ∨ o + vs.length ≤ k; omega)]
    exact hk

set_option maxHeartbeats 4000000 in
set_option maxRecDepth 100000 in
theorem insCell_shift (b n c i vb vc : Nat) (cs vs : List Value) (w : World) (hi : i < n) (hroom : n + 1 ≤ c) (hc63 : c ≤ 9223372036854775807) (hvb : vb ≠ b)
    (hcl : cs.length = n * 6) (hvl : vs.length = 6)
    (hcs : ∀ j v, cs[j]? = some v → w.cell? ⟨b, j, none⟩ = some v) (hsp : ∀ j, j < (n + 1) * 6 → (w.cell? ⟨b, j, none⟩).isSome = true) (hfz : ∀ j, w.frozen? ⟨b, j, none⟩ = false)
    (hvs : ∀ j v, vs[j]? = some v → w.cell? ⟨vb, j, none⟩ = some v) (h1c : ∀ v ∈ cs, v.oneCell' = true) (h1v : ∀ v ∈ vs, v.oneCell' = true)
    (tA tB : TypeId) (kA kB : Nat) (hsa : w.shape? vb = some (tA, kA)) (hsb : w.shape? b = some (tB, kB)) (hkB : kB ≠ 0) (hfa : w.frozen? ⟨vb, 0, none⟩ = false) (hfe : w.frozen? ⟨vb, kA, none⟩ = false) :
    Calls Tryz.prog 93 #[.slice (some ⟨b, 0, none⟩) n c, .int .i64 i, .slice (some ⟨vb, 0, none⟩) 1 vc] w fun e w' =>
      e = .returned (.slice (some ⟨b, 0, none⟩) (n + 1) c) ∧ w' = (w.drew.setCells b ((i + 1) * 6) (cs.drop (i * 6))).setCells b (i * 6) vs := by
  have hu := Tryz.underlying37
  have hsz : (Tryz.prog.info? 76).map (·.size) = some 6 := by kernel_rfl
  have hz2 : ¬ ((i : Int) = (n : Int)) := by omega
  have hov : ∀ o lb cb, (callFunc 124 #[.slice (some ⟨vb, 0, none⟩) 1 vc, .slice (some ⟨b, o, none⟩) lb cb]).run Tryz.prog w = .ok (.value (.bool false)) w := fun o lb cb => by
    rw [run_callFunc_extern Tryz.func124 (by kernel_rfl) (by kernel_rfl) (by kernel_rfl) (e := Extern.SlicesOverlaps.overlaps #[37, 37] #[4]) (by kernel_rfl),
      Lib.run_overlaps_apart w 37 4 76 hu 6 Tryz.sizeOf76 ⟨vb, 0, none⟩ ⟨b, o, none⟩ 1 vc lb cb hvb tA tB kA kB hsa hsb hkB hfa hfe]
    rfl
  have hw1 : IntKind.i64.wrap ((i : Int) + 1) = (i : Int) + 1 := by rw [IntKind.wrap_i64]; omega
  have hb1 : (0 : Int) ≤ (i : Int) + 1 := by omega
  have htn : ((i : Int) + 1).toNat = i + 1 := by omega
  have hin : i ≤ n := by omega
  have hb2 : ¬ (c = i + 1) := by omega
  have hb3 : (i : Int) ≤ (n : Int) + 1 := by omega
  have hb4 : ¬ (c = i) := by omega
  have hdl : (cs.drop (i * 6)).length = (n - i) * 6 := by rw [List.length_drop, hcl, ← Nat.sub_mul]
  have hm1 : Nat.min (n + 1 - i) (n - i) = n - i := by simp only [Nat.min_def]; split <;> omega
  have hm2 : Nat.min 1 (n + 1 - i) = 1 := by simp only [Nat.min_def]; split <;> omega
  have hcp1 : ∀ ty dc sc, (Builtin.copy_ #[37, 37] ty #[.slice (some ⟨b, (i + 1) * 6, none⟩) (n - i) dc, .slice (some ⟨b, i * 6, none⟩) (n + 1 - i) sc]).run Tryz.prog w.drew = .ok (goInt (n - i : Nat)) (w.drew.setCells b ((i + 1) * 6) (cs.drop (i * 6))) := fun ty dc sc => by
    have h := run_copy_k (P := Tryz.prog) w.drew 37 37 ty 76 b ((i + 1) * 6) (n - i) dc ⟨b, i * 6, none⟩ (n + 1 - i) sc 6 (cs.drop (i * 6)) hu hsz (by rw [hdl, hm1])
      (fun j v hj => by rw [Addr.add_lit]; exact hcs (i * 6 + j) v (by rwa [List.getElem?_drop] at hj))
      (fun j hj => hsp ((i + 1) * 6 + j) (by rw [hdl] at hj; omega)) (fun j hj => hfz _) (fun v hv => h1c v (List.mem_of_mem_drop hv))
    rw [hm1] at h; exact h
  obtain ⟨W1, hW1⟩ : ∃ W1, W1 = w.drew.setCells b ((i + 1) * 6) (cs.drop (i * 6)) := ⟨_, rfl⟩
  have hsp1 : ∀ k, k < (n + 1) * 6 → (W1.cell? ⟨b, k, none⟩).isSome = true := fun k hk => by
    rw [hW1]
    exact isSome_set b _ _ w.drew (fun j hj => hsp ((i + 1) * 6 + j) (by rw [hdl] at hj; omega)) _ (hsp k hk)
  have hcp2 : ∀ (W : World), (∀ x, W.cell? x = W1.cell? x) → (∀ x, W.frozen? x = W1.frozen? x) → ∀ ty dc, (Builtin.copy_ #[37, 37] ty #[.slice (some ⟨b, i * 6, none⟩) (n + 1 - i) dc, .slice (some ⟨vb, 0, none⟩) 1 vc]).run Tryz.prog W = .ok (goInt (1 : Nat)) (W.setCells b (i * 6) vs) := fun W hWc hWf ty dc => by
    have h := run_copy_k (P := Tryz.prog) W 37 37 ty 76 b (i * 6) (n + 1 - i) dc ⟨vb, 0, none⟩ 1 vc 6 vs hu hsz (by rw [hvl, hm2])
      (fun j v hj => by
        rw [Addr.add_lit, hWc, hW1, World.cell?_setCells_out b _ _ _ _ (fun h _ => absurd h hvb), Nat.zero_add]
        exact hvs j v hj)
      (fun j hj => by rw [hWc]; exact hsp1 _ (by omega)) (fun j hj => by rw [hWf, hW1, World.frozen?_setCells]; exact hfz _) h1v
    rw [hm2] at h; exact h
  rw [← hW1] at hcp1 ⊢
  have mixed : Tryz.prog.follows .mixedOrders = true := by kernel_rfl
  go_enter Tryz.func93, Tryz.ntmps93
  go_wp2_with (simp only [hov])
  go_region_law_o (refine step_copy_run rfl _ _ 37 37 rfl _ _ (by simp [Act.eval, Act.put]) (by simp [Act.eval, Act.put]) (hcp1 _ _ _) ?_)
  go_wp2_with (at_builtin; refine wpList_copy_run _ rfl _ _ 37 37 rfl _ _ rfl rfl (hcp2 _ (fun _ => rfl) (fun _ => rfl) _ _) ?_)
  go_ret
  exact ⟨rfl, by rw [hW1]⟩

theorem infoc_SignalCell : (Tryz.prog.info? 76).map (fun i => (i.zero, i.size, i.bytes)) = some (some (.agg #[.int .i64 0, .int .i64 0, .int .i64 0, .slice none 0 0, .slice none 0 0, .slice none 0 0]), 6, 96) := by kernel_rfl

set_option maxHeartbeats 4000000 in
set_option maxRecDepth 100000 in
theorem insCell_grow (b n c i vb vc : Nat) (cs vs : List Value) (w : World) (hi : i < n) (hnc : n ≤ c) (hroom : c < n + 1) (hbig : n ≤ 1000000)
    (hcl : cs.length = n * 6) (hvl : vs.length = 6)
    (hcs : ∀ j v, cs[j]? = some v → w.cell? ⟨b, j, none⟩ = some v)
    (hvs : ∀ j v, vs[j]? = some v → w.cell? ⟨vb, j, none⟩ = some v) (h1c : ∀ v ∈ cs, v.oneCell' = true) (h1v : ∀ v ∈ vs, v.oneCell' = true) :
    Calls Tryz.prog 93 #[.slice (some ⟨b, 0, none⟩) n c, .int .i64 i, .slice (some ⟨vb, 0, none⟩) 1 vc] w fun e w' =>
      ∃ G ROW, n + 1 ≤ G ∧ G ≤ maxLen ∧ ROW.size = G * 6 ∧ (∀ j v, cs[j]? = some v → j < i * 6 → ROW[j]? = some v) ∧
      e = .returned (.slice (some ⟨w.heap.size, 0, none⟩) (n + 1) G) ∧
      w' = (((w.alloc (.cells ROW 76)).drew.setCells w.heap.size (i * 6) vs).drew).setCells w.heap.size ((i + 1) * 6) (cs.drop (i * 6)) := by
  have hu := Tryz.underlying37
  obtain ⟨i0, hi0, hz0, hzs, hzb⟩ := info_parts infoc_SignalCell
  have hsz : (Tryz.prog.info? 76).map (·.size) = some 6 := by rw [hi0]; simp [hzs]
  have hz2 : ¬ ((i : Int) = (n : Int)) := by omega
  have hz3 : (c : Int) < (n : Int) + 1 := by omega
  have hbw : b < w.heap.size := World.block_lt_of_cell? _ _ (hcs 0 _ (List.getElem?_eq_getElem (by omega)))
  have hvw : vb < w.heap.size := World.block_lt_of_cell? _ _ (hvs 0 _ (List.getElem?_eq_getElem (by omega)))
  have hkk : (n : Int) + 1 - (i : Int) = ((n + 1 - i : Nat) : Int) := by omega
  have hik : i + (n + 1 - i) = n + 1 := by omega
  have hold : (Builtin.firstCells i0.size i (.slice (some ⟨b, 0, none⟩) i c)).run Tryz.prog w.drew = .ok (cs.take (i * 6)).toArray w.drew := by
    rw [hzs]
    exact run_firstCells_some w.drew 6 i ⟨b, 0, none⟩ i c (cs.take (i * 6)) (by rw [List.length_take]; omega) (fun j v hj => by
      rw [Addr.add_lit, Nat.zero_add]
      rw [List.getElem?_take] at hj
      split at hj
      · exact hcs j v hj
      · cases hj)
  have hrz : ∀ ty, (Builtin.append_ #[37, 3] ty #[.slice (some ⟨b, 0, none⟩) i c, .int .i64 ((n : Int) + 1 - (i : Int))]).run Tryz.prog w =
      .ok (.slice (some ⟨w.heap.size, 0, none⟩) (n + 1) (grownCap w (n + 1) c 76)) (w.drew.alloc (.cells ((cs.take (i * 6)).toArray ++ Builtin.zeroCells (Value.agg #[.int .i64 0, .int .i64 0, .int .i64 0, .slice none 0 0, .slice none 0 0, .slice none 0 0]).cells (n + 1 - i) ++ Builtin.zeroCells (Value.agg #[.int .i64 0, .int .i64 0, .int .i64 0, .slice none 0 0, .slice none 0 0, .slice none 0 0]).cells (grownCap w (n + 1) c 76 - (n + 1))) 76)) := fun ty => by
    have h := Lib.run_append_grow_zeros (P := Tryz.prog) w 37 3 ty 76 i0 _ .i64 .i64 hu Tryz.underlying3 hi0 hz0 (some ⟨b, 0, none⟩) i c (cs.take (i * 6)) hold (n + 1 - i) (by omega) (by omega) (by omega) (by omega) (by rw [hzb]; omega) (by rw [hzb, hik]; exact growslice_fits hroom (by omega))
    rw [hik] at h
    rw [hkk]
    exact h
  obtain ⟨G, hG⟩ : ∃ G, G = grownCap w (n + 1) c 76 := ⟨_, rfl⟩
  obtain ⟨ROW, hROW⟩ : ∃ ROW : Array Value, ROW = (cs.take (i * 6)).toArray ++ Builtin.zeroCells (Value.agg #[.int .i64 0, .int .i64 0, .int .i64 0, .slice none 0 0, .slice none 0 0, .slice none 0 0]).cells (n + 1 - i) ++ Builtin.zeroCells (Value.agg #[.int .i64 0, .int .i64 0, .int .i64 0, .slice none 0 0, .slice none 0 0, .slice none 0 0]).cells (G - (n + 1)) := ⟨_, rfl⟩
  rw [← hG] at hrz
  rw [← hROW] at hrz
  have hGn : n + 1 ≤ G := by rw [hG]; exact grownCap_ge w _ _ _
  have hG63' : G ≤ maxLen := by rw [hG]; exact grownCap_le_maxLen w (n + 1) c 76 (by unfold maxLen; omega)
  have hG63 : G ≤ 9223372036854775807 := by have := hG63'; unfold maxLen at this; omega
  have hRs : ROW.size = G * 6 := by
    rw [hROW]
    simp [Builtin.zeroCells, Value.cells]
    omega
  have hRh : ∀ j v, cs[j]? = some v → j < i * 6 → ROW[j]? = some v := fun j v hj hl => by
    have hjl := (List.getElem?_eq_some_iff.1 hj).1
    rw [hROW, Array.getElem?_append_left (by simp; omega), Array.getElem?_append_left (by simp; omega)]
    simp only [List.getElem?_toArray, List.getElem?_take, if_pos hl]; exact hj
  obtain ⟨W1, hW1⟩ : ∃ W1, W1 = w.drew.alloc (.cells ROW 76) := ⟨_, rfl⟩
  rw [← hW1] at hrz
  have hN : ∀ j, j < (n + 1) * 6 → (W1.cell? ⟨w.heap.size, j, none⟩).isSome = true := fun j hj => by
    rw [hW1, World.cell?_alloc_at (w := w.drew) ROW _ w.heap.size j rfl, Array.getElem?_eq_getElem (by rw [hRs]; omega)]; rfl
  have hNf : ∀ j, W1.frozen? ⟨w.heap.size, j, none⟩ = false := fun j => by rw [hW1]; exact World.frozen?_alloc_at (w := w.drew) ROW _ w.heap.size j rfl
  have hOb : ∀ j v, w.cell? ⟨b, j, none⟩ = some v → W1.cell? ⟨b, j, none⟩ = some v := fun j v h => by rw [hW1, World.cell?_alloc_past (w := w.drew) _ b j hbw]; exact h
  have hOv : ∀ j v, w.cell? ⟨vb, j, none⟩ = some v → W1.cell? ⟨vb, j, none⟩ = some v := fun j v h => by rw [hW1, World.cell?_alloc_past (w := w.drew) _ vb j hvw]; exact h
  have hm2 : Nat.min 1 (n + 1 - i) = 1 := by simp only [Nat.min_def]; split <;> omega
  have hm1 : Nat.min (n - i) (n - i) = n - i := by simp
  have hcpA : ∀ (W : World), (∀ x, W.cell? x = W1.cell? x) → (∀ x, W.frozen? x = W1.frozen? x) → ∀ ty dc, (Builtin.copy_ #[37, 37] ty #[.slice (some ⟨w.heap.size, i * 6, none⟩) (n + 1 - i) dc, .slice (some ⟨vb, 0, none⟩) 1 vc]).run Tryz.prog W = .ok (goInt (1 : Nat)) (W.setCells w.heap.size (i * 6) vs) := fun W hWc hWf ty dc => by
    have h := run_copy_k (P := Tryz.prog) W 37 37 ty 76 w.heap.size (i * 6) (n + 1 - i) dc ⟨vb, 0, none⟩ 1 vc 6 vs hu hsz (by rw [hvl, hm2])
      (fun j v hj => by rw [Addr.add_lit, hWc, Nat.zero_add]; exact hOv _ v (hvs j v hj))
      (fun j hj => by rw [hWc]; exact hN _ (by omega)) (fun j hj => by rw [hWf]; exact hNf _) h1v
    rw [hm2] at h; exact h
  have hbN : b ≠ w.heap.size := by omega
  have hdl : (cs.drop (i * 6)).length = (n - i) * 6 := by rw [List.length_drop, hcl, ← Nat.sub_mul]
  have hcpB : ∀ (W : World), (∀ x, W.cell? x = (W1.setCells w.heap.size (i * 6) vs).cell? x) → (∀ x, W.frozen? x = (W1.setCells w.heap.size (i * 6) vs).frozen? x) → ∀ ty dc sc, (Builtin.copy_ #[37, 37] ty #[.slice (some ⟨w.heap.size, (i + 1) * 6, none⟩) (n - i) dc, .slice (some ⟨b, i * 6, none⟩) (n - i) sc]).run Tryz.prog W = .ok (goInt (n - i : Nat)) (W.setCells w.heap.size ((i + 1) * 6) (cs.drop (i * 6))) := fun W hWc hWf ty dc sc => by
    have h := run_copy_k (P := Tryz.prog) W 37 37 ty 76 w.heap.size ((i + 1) * 6) (n - i) dc ⟨b, i * 6, none⟩ (n - i) sc 6 (cs.drop (i * 6)) hu hsz (by rw [hdl, hm1])
      (fun j v hj => by
        rw [Addr.add_lit, hWc, World.cell?_setCells_out _ _ _ _ _ (fun h _ => absurd h hbN)]
        exact hOb _ v (hcs (i * 6 + j) v (by rwa [List.getElem?_drop] at hj)))
      (fun j hj => by rw [hWc]; exact isSome_set _ _ _ _ (fun t ht => hN (i * 6 + t) (by omega)) _ (hN ((i + 1) * 6 + j) (by rw [hdl] at hj; omega)))
      (fun j hj => by rw [hWf, World.frozen?_setCells]; exact hNf _) (fun v hv => h1c v (List.mem_of_mem_drop hv))
    rw [hm1] at h; exact h
  subst hW1
  have hE1 : ∀ x, ((w.alloc (.cells ROW 76)).drew).cell? x = (w.drew.alloc (.cells ROW 76)).cell? x := fun x => rfl
  have hE2 : ∀ x, ((w.alloc (.cells ROW 76)).drew).frozen? x = (w.drew.alloc (.cells ROW 76)).frozen? x := fun x => rfl
  have hF1 : ∀ x, (((w.alloc (.cells ROW 76)).drew.setCells w.heap.size (i * 6) vs).drew).cell? x = ((w.drew.alloc (.cells ROW 76)).setCells w.heap.size (i * 6) vs).cell? x := fun x => rfl
  have hF2 : ∀ x, (((w.alloc (.cells ROW 76)).drew.setCells w.heap.size (i * 6) vs).drew).frozen? x = ((w.drew.alloc (.cells ROW 76)).setCells w.heap.size (i * 6) vs).frozen? x := fun x => rfl
  have hw1 : IntKind.i64.wrap ((i : Int) + 1) = (i : Int) + 1 := by rw [IntKind.wrap_i64]; omega
  have hb1 : (0 : Int) ≤ (i : Int) + 1 := by omega
  have htn : ((i : Int) + 1).toNat = i + 1 := by omega
  have hin : i ≤ n := by omega
  have hb3 : (i : Int) ≤ (n : Int) := by omega
  have hGi : ¬ (G = i) := by omega
  have hGim : ¬ (G = i + 1) := by omega
  have hci : ¬ (c = i) := by omega
  have mixed : Tryz.prog.follows .mixedOrders = true := by kernel_rfl
  clear hkk hik hold hROW hG
  go_enter Tryz.func93, Tryz.ntmps93
  go_wp2_with (first
    | (at_builtin; refine Lib.wpList_append_run _ rfl _ _ _ _ rfl _ _ rfl rfl _ _ (hrz _) ?_)
    | (at_builtin; refine wpList_copy_run _ rfl _ _ 37 37 rfl _ _ rfl rfl (hcpA _ hE1 hE2 _ _) ?_))
  go_region_law_o (refine step_copy_run rfl _ _ 37 37 rfl (.slice (some ⟨w.heap.size, (i + 1) * 6, none⟩) (n - i) (G - (i + 1))) (.slice (some ⟨b, i * 6, none⟩) (n - i) (c - i)) (by simp [Act.eval, Act.put]) (by simp [Act.eval, Act.put]) (hcpB _ hF1 hF2 3 (G - (i + 1)) (c - i)) ?_)
  go_wp2
  go_ret
  exact ⟨G, ROW, hGn, hG63', hRs, hRh, rfl, rfl⟩


set_option maxHeartbeats 4000000 in
set_option maxRecDepth 100000 in
/-- At the end: whatever the append comes to. -/
theorem insCell_end (A : Option Addr) (n c vb vc : Nat) (w w' : World) (v' : Value)
    (hr : ∀ ty, (Builtin.append_ #[37, 37] ty #[.slice A n c, .slice (some ⟨vb, 0, none⟩) 1 vc]).run Tryz.prog w = .ok v' w') (hn : n ≤ c) :
    Calls Tryz.prog 93 #[.slice A n c, .int .i64 n, .slice (some ⟨vb, 0, none⟩) 1 vc] w fun e w2 => e = .returned v' ∧ w2 = w' := by
  have hu := Tryz.underlying37
  cases A with
  | none =>
    go_enter Tryz.func93, Tryz.ntmps93
    go_wp2_with (at_builtin; refine Lib.wpList_append_run _ rfl _ _ _ _ rfl _ _ rfl rfl _ _ (hr _) ?_)
    all_goals (try go_ret)
    all_goals first | exact ⟨rfl, rfl⟩ | skip
  | some ad =>
    obtain ⟨ab, ao, asp⟩ := ad
    go_enter Tryz.func93, Tryz.ntmps93
    go_wp2_with (at_builtin; refine Lib.wpList_append_run _ rfl _ _ _ _ rfl _ _ rfl rfl _ _ (hr _) ?_)
    all_goals (go_ret; exact ⟨rfl, rfl⟩)

/-! ### What stands in a block behind it -/
theorem setCell_at {w : World} {b o : Nat} {v : Value} {cur : Array Value} {T : TypeId} {f : Nat × Nat} (h : w.heap[b]? = some (.cells cur T f)) : ∃ cur', (w.setCell ⟨b, o, none⟩ v).heap[b]? = some (.cells cur' T f) ∧ cur'.size = cur.size ∧ (∀ t, t ≠ o → cur'[t]? = cur[t]?) ∧ (o < cur.size → cur'[o]? = some v) := by
  refine ⟨_, by simp [World.setCell, Array.getElem?_modify, h]; rfl, ?_, fun t ht => ?_, fun ho => ?_⟩
  · simp
  · rw [Array.getElem?_setIfInBounds_ne (fun e => ht e.symm)]
  · rw [Array.getElem?_setIfInBounds_self_of_lt ho]
theorem setCells_at {b : Nat} {T : TypeId} {f : Nat × Nat} : ∀ (vs : List Value) (o : Nat) (w : World) (cur : Array Value), w.heap[b]? = some (.cells cur T f) → ∃ cur', (w.setCells b o vs).heap[b]? = some (.cells cur' T f) ∧ cur'.size = cur.size ∧ (∀ t, t < o ∨ o + vs.length ≤ t → cur'[t]? = cur[t]?) ∧ ∀ (j : Nat) (v : Value), vs[j]? = some v → o + j < cur.size → cur'[o + j]? = some v
  | [], o, w, cur, h => ⟨cur, h, rfl, fun _ _ => rfl, fun j v hj => by simp at hj⟩
  | v :: r, o, w, cur, h => by
    obtain ⟨c1, h1, h2, h3, h4⟩ := setCell_at (o := o) (v := v) h
    obtain ⟨c2, k1, k2, k3, k4⟩ := setCells_at r (o + 1) _ c1 h1
    refine ⟨c2, k1, k2.trans h2, fun t ht => ?_, fun j u hj hl => ?_⟩
    · rw [k3 t (by simp only [List.length_cons] at ht; omega)]
      refine h3 t fun e => ?_
      simp only [List.length_cons] at ht; omega
    · cases j with
      | zero =>
        simp at hj; subst hj
        rw [Nat.add_zero, k3 o (.inl (by omega))]
        exact h4 (by omega)
      | succ j =>
        have := k4 j u (by simpa using hj) (by omega)
        rwa [show o + 1 + j = o + (j + 1) by omega] at this
theorem setCells_else {b k : Nat} (hk : k ≠ b) : ∀ (vs : List Value) (o : Nat) (w : World), (w.setCells b o vs).heap[k]? = w.heap[k]?
  | [], _, _ => rfl
  | v :: r, o, w => (setCells_else hk r (o + 1) _).trans (Below.heap_setCell _ _ _ _ hk)
theorem setCells_size (b : Nat) : ∀ (vs : List Value) (o : Nat) (w : World), (w.setCells b o vs).heap.size = w.heap.size
  | [], _, _ => rfl
  | v :: r, o, w => (setCells_size b r (o + 1) _).trans (size_set _ _ _)
theorem setCells_rest (b : Nat) : ∀ (vs : List Value) (o : Nat) (w : World), (w.setCells b o vs).os = w.os ∧ (w.setCells b o vs).tape = w.tape ∧ (w.setCells b o vs).output = w.output
  | [], _, _ => ⟨rfl, rfl, rfl⟩
  | v :: r, o, w => setCells_rest b r (o + 1) _

/-- A block with new cells, in place or new; all else as it was. -/
structure InsOut (w w' : World) (b C : Nat) (T : TypeId) (cells : List Value) : Prop where
  blk : ∃ cur, w'.heap[b]? = some (.cells cur T (0, 0)) ∧ cur.size = C ∧ ∀ (t : Nat) (v : Value), cells[t]? = some v → cur[t]? = some v
  other : ∀ k, k ≠ b → k < w.heap.size → w'.heap[k]? = w.heap[k]?
  size : w.heap.size ≤ w'.heap.size
  rest : w'.os = w.os ∧ w'.tape = w.tape ∧ w'.output = w.output
theorem two_sets {w w0 : World} {b i k : Nat} {cur : Array Value} {T : TypeId} {cs vs : List Value} (h : w.heap[b]? = some (.cells cur T (0, 0))) (h0 : ∀ k, k ≠ b → k < w0.heap.size → w.heap[k]? = w0.heap[k]?) (hz : w0.heap.size ≤ w.heap.size) (hr : w.os = w0.os ∧ w.tape = w0.tape ∧ w.output = w0.output)
    (hvl : vs.length = k) (hhead : ∀ j v, cs[j]? = some v → j < i * k → cur[j]? = some v) (hfit : cs.length + k ≤ cur.size) (hi : i * k ≤ cs.length) :
    ∀ (flip : Bool), InsOut w0 (if flip then (w.setCells b ((i + 1) * k) (cs.drop (i * k))).setCells b (i * k) vs else ((w.setCells b (i * k) vs).drew).setCells b ((i + 1) * k) (cs.drop (i * k))) b cur.size T (cs.take (i * k) ++ vs ++ cs.drop (i * k)) := by
  have hk1 : (i + 1) * k = i * k + k := Nat.succ_mul i k
  have hdl : (cs.drop (i * k)).length = cs.length - i * k := List.length_drop ..
  have hcell : ∀ (c2 : Array Value), (∀ t : Nat, t < i * k → c2[t]? = cur[t]?) → (∀ (j : Nat) (v : Value), vs[j]? = some v → c2[i * k + j]? = some v) → (∀ (j : Nat) (v : Value), (cs.drop (i * k))[j]? = some v → c2[(i + 1) * k + j]? = some v) → ∀ (t : Nat) (v : Value), (cs.take (i * k) ++ vs ++ cs.drop (i * k))[t]? = some v → c2[t]? = some v := by
    intro c2 a1 a2 a3 t v ht
    have htl : (cs.take (i * k)).length = i * k := by rw [List.length_take]; omega
    by_cases h1 : t < i * k
    · rw [List.append_assoc, List.getElem?_append_left (by omega), List.getElem?_take, if_pos h1] at ht
      rw [a1 t h1]; exact hhead t v ht h1
    · by_cases h2 : t < i * k + k
      · rw [List.getElem?_append_left (by rw [List.length_append]; omega), List.getElem?_append_right (by omega), htl] at ht
        have := a2 _ v ht
        rwa [show i * k + (t - i * k) = t by omega] at this
      · rw [List.getElem?_append_right (by rw [List.length_append]; omega), List.length_append, htl, hvl] at ht
        have := a3 _ v ht
        rwa [show (i + 1) * k + (t - (i * k + k)) = t by omega] at this
  intro flip
  cases flip with
  | true =>
    obtain ⟨c1, g1, g2, g3, g4⟩ := setCells_at (cs.drop (i * k)) ((i + 1) * k) w cur h
    obtain ⟨c2, e1, e2, e3, e4⟩ := setCells_at vs (i * k) _ c1 g1
    simp only [if_true]
    refine ⟨⟨c2, e1, e2.trans g2, hcell c2 (fun t ht => ?_) (fun j v hj => e4 j v hj (by have := (List.getElem?_eq_some_iff.1 hj).1; omega)) (fun j v hj => ?_)⟩, fun q hq hql => ?_, ?_, ?_⟩
    · rw [e3 t (.inl ht), g3 t (.inl (by omega))]
    · have := (List.getElem?_eq_some_iff.1 hj).1
      rw [e3 _ (.inr (by omega))]; exact g4 j v hj (by omega)
    · rw [setCells_else hq, setCells_else hq]; exact h0 q hq hql
    · rw [setCells_size, setCells_size]; exact hz
    · have r1 := setCells_rest b vs (i * k) (w.setCells b ((i + 1) * k) (cs.drop (i * k)))
      have r2 := setCells_rest b (cs.drop (i * k)) ((i + 1) * k) w
      exact ⟨(r1.1.trans r2.1).trans hr.1, (r1.2.1.trans r2.2.1).trans hr.2.1, (r1.2.2.trans r2.2.2).trans hr.2.2⟩
  | false =>
    obtain ⟨c1, g1, g2, g3, g4⟩ := setCells_at vs (i * k) w cur h
    obtain ⟨c2, e1, e2, e3, e4⟩ := setCells_at (cs.drop (i * k)) ((i + 1) * k) ((w.setCells b (i * k) vs).drew) c1 g1
    simp only [Bool.false_eq_true, if_false]
    refine ⟨⟨c2, e1, e2.trans g2, hcell c2 (fun t ht => ?_) (fun j v hj => ?_) (fun j v hj => e4 j v hj (by have := (List.getElem?_eq_some_iff.1 hj).1; omega))⟩, fun q hq hql => ?_, ?_, ?_⟩
    · rw [e3 t (.inl (by omega)), g3 t (.inl ht)]
    · have := (List.getElem?_eq_some_iff.1 hj).1
      rw [e3 _ (.inl (by omega))]; exact g4 j v hj (by omega)
    · rw [setCells_else hq]
      exact (setCells_else hq vs (i * k) w).trans (h0 q hq hql)
    · rw [setCells_size]
      exact Nat.le_trans hz (Nat.le_of_eq (setCells_size b vs (i * k) w).symm)
    · have r1 := setCells_rest b (cs.drop (i * k)) ((i + 1) * k) ((w.setCells b (i * k) vs).drew)
      have r2 := setCells_rest b vs (i * k) w
      exact ⟨(r1.1.trans r2.1).trans hr.1, (r1.2.1.trans r2.2.1).trans hr.2.1, (r1.2.2.trans r2.2.2).trans hr.2.2⟩

end Go.Proofs.YtpbniieiinhliaaGreat

namespace Go.Proofs.YtpbniieiinhliaaGreat.V
open Go.RowKit

variable {P : Program} {w w' : World} {D : Nat → Prop} {ι : Names} {hs : Nat} {g : Rows}

/-- In place. -/
theorem ins_in (S : Sim P hs D ι g w) {id : Id} {r r' : Row} {B : Blk} {cells : List Value} {cur : Array Value} {T : TypeId} (hid : g id = some r) (hw : r.w = true) (hB : ι id = some B) (hblk : w.heap[B.b]? = some (.cells cur T (0, 0))) (hC : cur.size = B.C) (I : InsOut w w' B.b B.C T cells)
    (h0 : r'.w = true) (h1 : r'.sz = r.sz) (h2 : r'.rows.length * r'.sz ≤ B.C) (h3 : ∀ cs ∈ r'.rows, cs.length = r'.sz) (h4 : ∀ cs ∈ r'.rows, ∀ a ∈ cs, a.cell = true) (hc : RepL P w D ι r'.rows.flatten cells.toArray) :
    Sim P hs D ι (setR g id r') w' ∧ Step hs D ι w D ι w' := by
  obtain ⟨cur', hblk', hC', hcells⟩ := I.blk
  obtain ⟨S1, T1⟩ := S.put (r' := r') (cur' := cur') hid hw hB hblk (by rw [hC', hC]) h0 h1 h2 h3 h4 (fun i j cs a hi hj => by
    obtain ⟨u, hu, hr⟩ := hc.2 _ _ (flat_get h3 hi hj)
    refine ⟨u, hcells _ _ ?_, hr⟩
    rw [← h1]; simpa using hu)
  have hz : (w.setRow B.b cur').heap.size = w.heap.size := by simp
  have hh : ∀ k, k < (w.setRow B.b cur').heap.size → w'.heap[k]? = (w.setRow B.b cur').heap[k]? := fun k hk => by
    by_cases hkb : k = B.b
    · subst hkb
      rw [hblk', setRow_heap w B.b cur cur' T _ hblk]
    · rw [setRow_other w B.b k cur' hkb]
      exact I.other k hkb (by rw [hz] at hk; exact hk)
  have hz' : (w.setRow B.b cur').heap.size ≤ w'.heap.size := by rw [hz]; exact I.size
  refine ⟨S1.stay hh hz' (fun _ h => h) (fun b hb => Nat.lt_of_lt_of_le (S1.dead b hb) hz') (fun _ h => .inl h) (fun _ _ h => h), T1.trans (Step.stay S1 hh hz' ?_ ?_ ?_ (fun _ h => h) (fun _ h => .inl h) (fun _ _ h => h))⟩
  · rw [I.rest.1]; simp [World.setRow]
  · rw [I.rest.2.1]; simp [World.setRow]
  · rw [I.rest.2.2]; simp [World.setRow]

/-- A new block. -/
theorem ins_new (S : Sim P hs D ι g w) {id : Id} {r' : Row} {C : Nat} {cells : List Value} {T : TypeId} (hn : ι id = none) (I : InsOut w w' w.heap.size C T cells)
    (h2 : r'.rows.length * r'.sz ≤ C) (h3 : ∀ cs ∈ r'.rows, cs.length = r'.sz) (h4 : ∀ cs ∈ r'.rows, ∀ a ∈ cs, a.cell = true) (hc : RepL P w D ι r'.rows.flatten cells.toArray) :
    Sim P hs D (updN ι id ⟨w.heap.size, r'.sz, C⟩) (setR g id r') w' ∧ Step hs D ι w D (updN ι id ⟨w.heap.size, r'.sz, C⟩) w' := by
  obtain ⟨cur', hblk', hC', hcells⟩ := I.blk
  have hh : ∀ k, k < w.heap.size → w'.heap[k]? = w.heap[k]? := fun k hk => I.other k (by omega) hk
  have S' := S.stay (D' := D) (ι' := ι) hh I.size (fun _ h => h) (fun b hb => Nat.lt_of_lt_of_le (S.dead b hb) I.size) (fun _ h => .inl h) (fun _ _ h => h)
  refine ⟨S.add S' hn (Nat.le_refl _) ⟨rfl, ⟨cur', T, hblk', hC'⟩, h2, h3, h4, fun i j cs a hi hj => ?_⟩, Step.stay S hh I.size I.rest.1 I.rest.2.1 I.rest.2.2 (fun _ h => h) (fun _ h => .inl h) (updN_old hn)⟩
  obtain ⟨u, hu, hr⟩ := hc.2 _ _ (flat_get h3 hi hj)
  refine ⟨u, ?_, hr.frame (fun b hb => hh b (S.dead b hb)) (fun _ h => h) (updN_old hn)⟩
  have hcu := hcells _ _ (show cells[i * r'.sz + j]? = some u by simpa using hu)
  simp only [World.cell?, hblk']
  exact hcu

theorem flat_ins {rows : List (List AV)} {vr : List AV} {k i : Nat} (h : ∀ c ∈ rows, c.length = k) (hi : i ≤ rows.length) : (rows.take i ++ vr :: rows.drop i).flatten = rows.flatten.take (i * k) ++ vr ++ rows.flatten.drop (i * k) := by
  have e : rows.flatten = (rows.take i).flatten ++ (rows.drop i).flatten := by rw [← List.flatten_append, List.take_append_drop]
  have hl : (rows.take i).flatten.length = i * k := by
    rw [flat_len fun c hc => h c (List.mem_of_mem_take hc), List.length_take]; congr 1; omega
  rw [List.flatten_append, List.flatten_cons, e, List.take_left' hl, List.drop_left' hl, List.append_assoc]
theorem RepL.ins {xs vr : List AV} {cs vs : List Value} {m : Nat} (h : RepL P w D ι xs cs.toArray) (hv : RepL P w D ι vr vs.toArray) (hm : m ≤ xs.length) : RepL P w D ι (xs.take m ++ vr ++ xs.drop m) (cs.take m ++ vs ++ cs.drop m).toArray := by
  have h1 : cs.length = xs.length := by simpa using h.1
  have h2 : vs.length = vr.length := by simpa using hv.1
  refine ⟨by simp; omega, fun j a hj => ?_⟩
  have t1 : (xs.take m).length = m := by rw [List.length_take]; omega
  have t2 : (cs.take m).length = m := by rw [List.length_take]; omega
  simp only [List.getElem?_toArray]
  by_cases c1 : j < m
  · rw [List.append_assoc, List.getElem?_append_left (by omega), List.getElem?_take, if_pos c1] at hj
    obtain ⟨u, hu, hr⟩ := h.2 j a hj
    refine ⟨u, ?_, hr⟩
    rw [List.append_assoc, List.getElem?_append_left (by omega), List.getElem?_take, if_pos c1]; simpa using hu
  · by_cases c2 : j < m + vr.length
    · rw [List.getElem?_append_left (by rw [List.length_append]; omega), List.getElem?_append_right (by omega), t1] at hj
      obtain ⟨u, hu, hr⟩ := hv.2 _ a hj
      refine ⟨u, ?_, hr⟩
      rw [List.getElem?_append_left (by rw [List.length_append]; omega), List.getElem?_append_right (by omega), t2]; simpa using hu
    · rw [List.getElem?_append_right (by rw [List.length_append]; omega), List.length_append, t1, List.getElem?_drop] at hj
      obtain ⟨u, hu, hr⟩ := h.2 _ a hj
      refine ⟨u, ?_, hr⟩
      rw [List.getElem?_append_right (by rw [List.length_append]; omega), List.length_append, t2, h2, List.getElem?_drop]; simpa using hu

set_option maxRecDepth 100000 in
theorem insert_v (σ : Store) (aid vid : Id) (rows : List (List AV)) (vr : List AV) (i : Nat) (hg : σ.get aid = some ⟨true, 6, rows⟩) (hvg : σ.get vid = some ⟨true, 6, [vr]⟩) (hne : ¬ aid = vid) (hi : i ≤ rows.length) (hn0 : 0 < rows.length) (hn : rows.length ≤ 1000) :
    Call Tryz.prog 93 [.own aid 0 rows.length, .int .i64 i, .own vid 0 1] σ fun r σ' => ∃ oid, r = .own oid 0 (rows.length + 1) ∧ σ'.get oid = some ⟨true, 6, rows.take i ++ vr :: rows.drop i⟩ ∧ (oid = aid ∨ (σ.next ≤ oid.ver ∧ oid.ver < σ'.next)) ∧ σ.next ≤ σ'.next ∧ ∀ j : Id, j.ver < σ.next → j ≠ aid → σ'.get j = σ.get j := by
  refine Call_world fun hs D ι w vs S U A => ?_
  obtain ⟨u1, us1, rfl, h1, h2⟩ := repL_cons A
  obtain ⟨u2, us2, h3, h4, h5⟩ := repL_cons h2
  simp at h3; subst h3
  obtain ⟨u3, us3, h6, h7, h8⟩ := repL_cons h5
  simp at h6; subst h6
  have := repL_nil h8
  simp at this; subst this
  have e2 := rep_int h4
  subst e2
  obtain ⟨B, hB, R, hlo, hnd⟩ := S.row aid _ hg
  obtain ⟨Bv, hBv, Rv, hlov, hndv⟩ := S.row vid _ hvg
  obtain ⟨cur, T, hblk, hC, _⟩ := R.cur
  obtain ⟨curv, Tv, hblkv, hCv, _⟩ := Rv.cur
  have hlen : ∀ c ∈ rows, c.length = 6 := R.len
  have hflat : ∀ c ∈ rows, ∀ a ∈ c, a.cell = true := R.flat
  have hvl : ∀ c ∈ [vr], c.length = 6 := Rv.len
  have hvf : ∀ c ∈ [vr], ∀ a ∈ c, a.cell = true := Rv.flat
  obtain ⟨o, cap, B', rfl, hB', q1, q2, q3, q4⟩ := rep_own h1
  rw [hB] at hB'; injection hB' with hB'; subst hB'
  obtain ⟨ov, cv, Bv', rfl, hBv', v1, v2, v3, v4⟩ := rep_own h7
  rw [hBv] at hBv'; injection hBv' with hBv'; subst hBv'
  have hBs : B.sz = 6 := R.sz
  have hBvs : Bv.sz = 6 := Rv.sz
  have ho : o = 0 := by rcases q2 with h | h <;> omega
  have hov : ov = 0 := by rcases v2 with h | h <;> omega
  subst ho; subst hov
  have hbv : Bv.b ≠ B.b := fun e => hne (S.inj aid vid _ _ B Bv hg hvg rfl hB hBv e.symm)
  obtain ⟨A1, c1, e1, k1⟩ := rows_at (sz := 6) S h1 (ys := rows) (by simp [rowsIn, hg]) hlen hflat
  obtain ⟨A2, c2, e3, k2⟩ := rows_at (sz := 6) S h7 (ys := [vr]) (by simp [rowsIn, hvg]) hvl hvf
  rcases k1 with k1 | ⟨b1, o1, cs, rfl, cl, cc, cr, c1'⟩
  · subst k1; simp at hn0
  rcases k2 with k2 | ⟨b2, o2, vls, rfl, vl, vc, vrp, v1'⟩
  · cases k2
  simp only [Value.slice.injEq, Option.some.injEq, Addr.mk.injEq] at e1 e3
  obtain ⟨⟨rfl, rfl, _⟩, _, rfl⟩ := e1
  obtain ⟨⟨rfl, rfl, _⟩, _, rfl⟩ := e3
  simp only [List.flatten_cons, List.flatten_nil, List.append_nil] at vrp
  simp only [List.length_cons, List.length_nil, Nat.zero_add, Nat.one_mul] at vl
  simp only [Nat.zero_add] at cc vc
  have hfin : ∀ id : Id, ι id = none → ι id = none := fun _ h => h
  have hfresh : ι ⟨93000000, σ.next⟩ = none := by
    cases hq : ι ⟨93000000, σ.next⟩ with
    | none => rfl
    | some B0 => rcases U ⟨93000000, σ.next⟩ (by rw [hq]; simp) with h | ⟨_, h⟩
                 · simp at h
                 · exact h.elim
  have hfl := flat_ins (vr := vr) hlen hi
  have hlen' : ∀ c ∈ rows.take i ++ vr :: rows.drop i, c.length = 6 := fun c hc => by
    rcases List.mem_append.1 hc with hc | hc
    · exact hlen c (List.mem_of_mem_take hc)
    · rcases List.mem_cons.1 hc with rfl | hc
      · exact hvl _ (by simp)
      · exact hlen c (List.mem_of_mem_drop hc)
  have hflat' : ∀ c ∈ rows.take i ++ vr :: rows.drop i, ∀ a ∈ c, a.cell = true := fun c hc => by
    rcases List.mem_append.1 hc with hc | hc
    · exact hflat c (List.mem_of_mem_take hc)
    · rcases List.mem_cons.1 hc with rfl | hc
      · exact hvf _ (by simp)
      · exact hflat c (List.mem_of_mem_drop hc)
  have hll : (rows.take i ++ vr :: rows.drop i).length = rows.length + 1 := by simp; omega
  have hfll : rows.flatten.length = rows.length * 6 := flat_len hlen
  have hrep : RepL Tryz.prog w D ι (rows.take i ++ vr :: rows.drop i).flatten (cs.take (i * 6) ++ vls ++ cs.drop (i * 6)).toArray := by
    rw [hfl]; exact cr.ins vrp (by omega)
  have hcsz : (rows.length + 1) ≤ cap → (rows.length + 1) * 6 ≤ cur.size := fun h => by rw [hC]; rw [hBs] at q3; omega
  -- the two ways to answer
  have inplace : ∀ w', InsOut w w' B.b B.C T (cs.take (i * 6) ++ vls ++ cs.drop (i * 6)) → rows.length + 1 ≤ cap → ∃ r g' n' D' ι' u, Ending.returned (.slice (some ⟨B.b, 0, none⟩) (rows.length + 1) cap) = .returned u ∧ (∃ oid, r = .own oid 0 (rows.length + 1) ∧ g' oid = some ⟨true, 6, rows.take i ++ vr :: rows.drop i⟩ ∧ (oid = aid ∨ (σ.next ≤ oid.ver ∧ oid.ver < n')) ∧ σ.next ≤ n' ∧ ∀ j : Id, j.ver < σ.next → j ≠ aid → g' j = σ.get j) ∧ Step hs D ι w D' ι' w' ∧ Sim Tryz.prog hs D' ι' g' w' ∧ Used ι' n' (fun _ => False) ∧ σ.next ≤ n' ∧ Rep Tryz.prog w' D' ι' r u := fun w' I hroom => by
    obtain ⟨S1, T1⟩ := ins_in (r' := ⟨true, 6, rows.take i ++ vr :: rows.drop i⟩) S hg rfl hB hblk hC I rfl rfl (by rw [hll]; have := hcsz hroom; rw [hC] at this; exact this) hlen' hflat' hrep
    exact ⟨.own aid 0 (rows.length + 1), _, σ.next, D, ι, _, rfl, ⟨aid, rfl, by simp [setR], .inl rfl, Nat.le_refl _, fun j _ hj => by simp [setR, hj]⟩, T1, S1, U, Nat.le_refl _, .own _ _ _ _ _ B hB hroom (.inr (Nat.zero_mul _).symm) q3 q4⟩
  have anew : ∀ w' G T2, InsOut w w' w.heap.size (G * 6) T2 (cs.take (i * 6) ++ vls ++ cs.drop (i * 6)) → rows.length + 1 ≤ G → G ≤ maxLen → ∃ r g' n' D' ι' u, Ending.returned (.slice (some ⟨w.heap.size, 0, none⟩) (rows.length + 1) G) = .returned u ∧ (∃ oid, r = .own oid 0 (rows.length + 1) ∧ g' oid = some ⟨true, 6, rows.take i ++ vr :: rows.drop i⟩ ∧ (oid = aid ∨ (σ.next ≤ oid.ver ∧ oid.ver < n')) ∧ σ.next ≤ n' ∧ ∀ j : Id, j.ver < σ.next → j ≠ aid → g' j = σ.get j) ∧ Step hs D ι w D' ι' w' ∧ Sim Tryz.prog hs D' ι' g' w' ∧ Used ι' n' (fun _ => False) ∧ σ.next ≤ n' ∧ Rep Tryz.prog w' D' ι' r u := fun w' G T2 I hG hGm => by
    obtain ⟨S1, T1⟩ := ins_new (id := ⟨93000000, σ.next⟩) (r' := ⟨true, 6, rows.take i ++ vr :: rows.drop i⟩) S hfresh I (by show (rows.take i ++ vr :: rows.drop i).length * 6 ≤ G * 6; rw [hll]; omega) hlen' hflat' hrep
    refine ⟨.own ⟨93000000, σ.next⟩ 0 (rows.length + 1), _, σ.next + 1, D, _, _, rfl, ⟨_, rfl, by simp [setR], .inr ⟨Nat.le_refl _, Nat.lt_succ_self _⟩, Nat.le_succ _, fun j hj _ => ?_⟩, T1, S1, U.upd.next, Nat.le_succ _, .own _ _ _ _ _ _ (updN_same _ _ _) hG (.inr (Nat.zero_mul _).symm) (by simp) hGm⟩
    have : ¬ j = ⟨93000000, σ.next⟩ := fun e => by subst e; simp at hj
    simp [setR, this]
  have hcur : ∀ (j : Nat) (v : Value), cs[j]? = some v → cur[j]? = some v := fun j v hj => by
    have := cc j v hj
    rwa [cell_of_row w B.b j cur T (0, 0) hblk] at this
  have fz : ∀ j, w.frozen? ⟨B.b, j, none⟩ = false := fun j => by simp only [World.frozen?, hblk]; simp
  have fzv : ∀ j, w.frozen? ⟨Bv.b, j, none⟩ = false := fun j => by simp only [World.frozen?, hblkv]; simp
  obtain ⟨i0, hi0, hz0, hzs, hzb⟩ := info_parts infoc_SignalCell
  have hu := Tryz.underlying37
  have hbl : B.b < w.heap.size := (Array.getElem?_eq_some_iff.1 hblk).1
  by_cases hin : i = rows.length
  · subst hin
    have et : cs.take (rows.length * 6) = cs := List.take_of_length_le (by omega)
    have ed : cs.drop (rows.length * 6) = [] := List.drop_of_length_le (by omega)
    rw [et, ed, List.append_nil] at inplace anew
    by_cases hroom : rows.length + 1 ≤ cap
    · have hfit := hcsz hroom
      have hrun := fun ty => run_append_in (P := Tryz.prog) (w := w) (ty := ty) hu hi0 B.b rows.length cap cur hblk ⟨Bv.b, 0, none⟩ 1 cv vls (by rw [hzs]; omega) (fun j v hj => by rw [Addr.add_lit, Nat.zero_add]; exact vc j v hj) v1' hroom (by rw [hzs]; omega)
      simp only [hzs] at hrun
      refine (insCell_end (some ⟨B.b, 0, none⟩) rows.length cap Bv.b cv w _ _ hrun (by omega)).mono ?_
      rintro e w' ⟨rfl, rfl⟩
      have hsz : (cur.toList.take (rows.length * 6) ++ vls ++ cur.toList.drop (rows.length * 6 + vls.length)).toArray.size = cur.size := by simp; omega
      have I : InsOut w (w.setRow B.b (cur.toList.take (rows.length * 6) ++ vls ++ cur.toList.drop (rows.length * 6 + vls.length)).toArray) B.b B.C T (cs ++ vls) := by
        refine ⟨⟨_, setRow_heap w B.b cur _ T _ hblk, by rw [hsz, hC], fun t v ht => ?_⟩, fun k hk _ => setRow_other w B.b k _ hk, by simp, by simp [World.setRow], by simp [World.setRow], by simp [World.setRow]⟩
        simp only [List.getElem?_toArray]
        have htl : (cur.toList.take (rows.length * 6)).length = rows.length * 6 := by simp; omega
        by_cases h1 : t < rows.length * 6
        · rw [List.getElem?_append_left (by omega)] at ht
          rw [List.append_assoc, List.getElem?_append_left (by omega), List.getElem?_take, if_pos h1]
          have := hcur t v ht
          simpa using this
        · rw [List.getElem?_append_right (by omega), cl] at ht
          have := (List.getElem?_eq_some_iff.1 ht).1
          rw [List.getElem?_append_left (by rw [List.length_append]; omega), List.getElem?_append_right (by omega), htl]; exact ht
      exact inplace _ I hroom
    · have hrun := fun ty => run_append_grow (P := Tryz.prog) w 37 ty 76 i0 _ hu hi0 hz0 ⟨B.b, 0, none⟩ rows.length cap cs (by rw [hzs]; omega) (fun j v hj => by rw [Addr.add_lit, Nat.zero_add]; exact cc j v hj) ⟨Bv.b, 0, none⟩ 1 cv vls (by rw [hzs]; omega) (fun j v hj => by rw [Addr.add_lit, Nat.zero_add]; exact vc j v hj) (by omega) (by omega) (growslice_fits (by omega) (by rw [hzb]; omega))
      refine (insCell_end (some ⟨B.b, 0, none⟩) rows.length cap Bv.b cv w _ _ hrun (by omega)).mono ?_
      rintro e w' ⟨rfl, rfl⟩
      have g1 := grownCap_ge w (rows.length + 1) cap 76
      have g2 := grownCap_le_maxLen w (rows.length + 1) cap 76 (by unfold maxLen; omega)
      refine anew _ _ _ ⟨⟨_, heap_alloc_new w.drew _, ?_, fun t v ht => ?_⟩, fun k _ hk => Below.heap_alloc w.drew _ _ hk, by simp, rfl, rfl, rfl⟩ g1 g2
      · simp [Builtin.zeroCells, Value.cells]
        omega
      · rw [Array.getElem?_append_left (by have := (List.getElem?_eq_some_iff.1 ht).1; simpa using this)]
        simpa using ht
  · have hil : i < rows.length := by omega
    by_cases hroom : rows.length + 1 ≤ cap
    · have hfit := hcsz hroom
      refine (insCell_shift B.b rows.length cap i Bv.b cv cs vls w hil hroom (by unfold maxLen at q4; omega) hbv (by omega) vl cc (fun j hj => by rw [cell_of_row w B.b j cur T (0, 0) hblk, Array.getElem?_eq_getElem (by omega)]; rfl) fz vc c1' v1' Tv T curv.size cur.size (by simp [World.shape?, hblkv]) (by simp [World.shape?, hblk]) (by omega) (fzv _) (fzv _)).mono ?_
      rintro e w' ⟨rfl, rfl⟩
      have I := two_sets (w0 := w) (w := w.drew) (b := B.b) (i := i) (k := 6) (cur := cur) (T := T) (cs := cs) (vs := vls) hblk (fun _ _ _ => rfl) (Nat.le_refl _) ⟨rfl, rfl, rfl⟩ vl (fun j v hj _ => hcur j v hj) (by omega) (by omega) true
      rw [if_pos rfl, hC] at I
      exact inplace _ I hroom
    · refine (insCell_grow B.b rows.length cap i Bv.b cv cs vls w hil q1 (by omega) (by omega) (by omega) vl cc vc c1' v1').mono ?_
      rintro e w' ⟨G, ROW, g1, g2, g3, g4, rfl, rfl⟩
      have I := two_sets (w0 := w) (w := (w.alloc (.cells ROW 76)).drew) (b := w.heap.size) (i := i) (k := 6) (cur := ROW) (T := 76) (cs := cs) (vs := vls) (heap_alloc_new w _) (fun k _ hk => Below.heap_alloc w _ _ hk) (by simp) ⟨rfl, rfl, rfl⟩ vl g4 (by omega) (by omega) false
      rw [if_neg (by simp), g3] at I
      exact anew _ G _ I g1 g2

end Go.Proofs.YtpbniieiinhliaaGreat.V

namespace Go.Proofs.YtpbniieiinhliaaGreat.V
open Go.RowKit
attribute [local irreducible] wpv wpOps PCx Call
attribute [local go_sem] wantedV vop qop eop vis evO upd envOf K.av boxOf AV.cells AV.cell rowOf rowsOf part ld rowAt setR killR ibin vbin vsh vclear vsbin sbin eq1 eqL xorB vnil vnilS vnilF hiOf loOf vslice vsliceS viaddr vidxS vidxA vlen vnot vneg vconv vconvS vpick vchk vfield vextract vlenS fillV vmk rowsIn putCs vstore vappend seqQ blockQ most AV.undef callW locP locQ List.getD_cons_zero List.getD_cons_succ List.getD_nil List.all_cons List.all_nil Bool.and_true Bool.true_and Bool.and_self Bool.not_true Bool.not_false Option.map_some Option.map_none Option.bind_some Option.bind_none List.length_cons List.length_nil List.take_succ_cons List.take_zero List.take_nil List.drop_succ_cons List.drop_zero List.drop_nil List.head?_cons List.map_cons List.map_nil List.getElem?_cons_zero List.getElem?_cons_succ List.cons_append List.nil_append List.append_nil List.length_map List.set_cons_zero List.set_cons_succ Nat.reduceMul eq_self Int.toNat_natCast Int.natCast_nonneg and_self true_and and_true decide_true decide_false Bool.false_eq_true Nat.zero_add Nat.add_zero List.contains_cons List.contains_nil Bool.or_false Bool.false_or beq_self_eq_true Nat.reduceBEq ne_eq not_true_eq_false not_false_eq_true Id.mk.injEq false_and and_false Nat.reduceLT Int.reduceLE Int.reduceLT Int.reduceToNat Int.reduceNeg Int.reduceAdd Nat.le_refl List.length_append beq_true beq_false Bool.not_eq_eq_eq_not or_false false_or rw_ fzRow_cons fzRow_nil fz_int fz_bool fz_str fz_sl fz_nils fz_agg fz_iptr fz_ptrE fz_fn

set_option maxRecDepth 100000 in
set_option maxHeartbeats 4000000 in
theorem play1_v (c : D_SignalCell) (p : D_Point) : RetS Tryz.prog 91 [.agg (eCell c), .agg (ePoint p)] (.int .i64 (cmpP c.g_At p)) := by
  refine RetS.body cfE rfl fun hl n0 => ?_
  clear hl
  (repeat (first | ((repeat (revert hN; revert N; apply Pn.out)); refine wk (tw @eCell.eq_1 @ePoint.eq_1) ?_; (repeat (refine Pn.mk ?_; intro N hN))) | ((try apply Or.inl); refine ⟨_, Ret.x (comparePoints_v c.g_At p) _, ?_⟩; refine hN _ _ ?_; clear hN N)))
  exact ret1Si (.inl rfl) (sd @Nat.zero_add) rfl

/-- The world behind an event, and the code. -/
def PlayK (s : D_SignalSet) (temp : Int) (cells : List D_SignalCell) (e : D_SignalEvent) (σ : Store) (r : AV) (σ' : Store) : Prop :=
  ∃ wd x ids, r = .tup [.agg wd, .int .i64 (if fullE cells e then 4 else 0)] ∧ wd = (if fullE cells e then [.nils, .nils, .int .i64 0, .nils] else [.sl (s.g_Glues.map eGlue), .sl (s.g_Tiles.map eTile), .int .i64 temp, x]) ∧ CellsO σ'.get x (if fullE cells e then [] else doE s cells e) ids ∧ NewIds σ.next σ'.next ids ∧ Kept σ σ'

theorem can_pos {s : D_SignalSet} {temp : Int} {cells : List D_SignalCell} {e : D_SignalEvent} (ht : 1 ≤ temp) (hc : canE s temp cells e = true) : 0 < cells.length := by
  rcases can_kind hc with h | h | h
  · have h1 := can1 hc h
    rw [canE, if_pos h] at hc
    simp only [Bool.and_eq_true, Bool.not_eq_true', decide_eq_false_iff_not, decide_eq_true_eq] at hc
    obtain ⟨_, hn⟩ := att_near ht hc.2.2.2 h1.pt h1.free
    rcases hn with ⟨j, d, hj, _⟩ | ⟨d, hd, _⟩
    · omega
    · omega
  · have := (can2 hc h).at_; omega
  · have := (can3 hc h).at_; omega

theorem low_put {cells : List D_SignalCell} {p : D_Point} (h : ¬ idxN cells p < cells.length) : lowN cells p = putPos cells p := by
  have hm := putPos_le cells p
  refine lowN_of hm (fun x hx => ltB_tri (putPos_before hx) fun he => h ?_) fun hl => ltB_asym (putPos_at hl)
  rw [he]; exact idx_lt (by omega)
theorem nodup_put {n : Nat} {oid aid : Id} {nids is i1 i2 : List Id} (hnd : (aid :: is).Nodup) (he : is = i1 ++ i2) (hlt : ∀ i ∈ aid :: is, i.ver < n) (hn : nids.Nodup) (hge : ∀ i ∈ nids, n ≤ i.ver) (h1 : oid ∉ is) (h2 : oid ∉ nids) : (oid :: (i1 ++ (nids ++ i2))).Nodup := by
  subst he
  obtain ⟨n1, n2, n3⟩ := List.nodup_append.1 (List.nodup_cons.1 hnd).2
  rw [List.nodup_cons, List.nodup_append, List.nodup_append]
  refine ⟨fun h => ?_, n1, ⟨hn, n2, fun x hx y hy e => ?_⟩, fun x hx y hy e => ?_⟩
  · rcases List.mem_append.1 h with h | h
    · exact h1 (by simp [h])
    · rcases List.mem_append.1 h with h | h
      · exact h2 h
      · exact h1 (by simp [h])
  · subst e; have := hge x hx; have := hlt x (by simp [hy]); omega
  · subst e
    rcases List.mem_append.1 hy with hy | hy
    · have := hge x hy; have := hlt x (by simp [hx]); omega
    · exact n3 x hx x hy rfl

theorem idx_set {cells : List D_SignalCell} {i : Nat} {c : D_SignalCell} {p : D_Point} (hi : i < cells.length) (hc : c.g_At = (cellAt cells i).g_At) : idxI (cells.set i c) p = idxI cells p := by
  have e : (cells.set i c).map (fun c => decide (c.g_At = p)) = cells.map (fun c => decide (c.g_At = p)) := by
    rw [List.map_set]
    refine List.ext_getElem? fun j => ?_
    rw [List.getElem?_set]
    split
    · rename_i h; subst h
      simp only [List.length_map, hi, if_true, List.getElem?_map, List.getElem?_eq_getElem hi, Option.map_some]
      rw [hc, cellAt_eq hi]
    · rfl
  have e2 : idxN (cells.set i c) p = idxN cells p := by
    have : ∀ l : List D_SignalCell, idxN l p = (l.map (fun c => decide (c.g_At = p))).findIdx id := fun l => by rw [List.findIdx_map]; rfl
    rw [this, this, e]
  unfold idxI
  rw [e2, List.length_set]
theorem opp_eq {d : Int} (hd : inB d 0 3 = true) : (d + 2) % 4 = oppI d := by rw [oppI, if_pos hd]

set_option maxRecDepth 100000 in
set_option maxHeartbeats 4000000 in
theorem play_v (s : D_SignalSet) (temp : Int) (cells : List D_SignalCell) (e : D_SignalEvent) (ht : 1 ≤ temp) (hok : CellsOk s cells) (hc : canE s temp cells e = true) (x0 : AV) (hx0 : x0.cell = true) (σ : Store)
    (hclone : ∀ σ1 : Store, Kept σ σ1 → Call Tryz.prog 57 [.agg [.sl (s.g_Glues.map eGlue), .sl (s.g_Tiles.map eTile), .int .i64 temp, x0]] σ1 (CloneK s temp cells σ1)) :
    Call Tryz.prog 50 [.agg [.sl (s.g_Glues.map eGlue), .sl (s.g_Tiles.map eTile), .int .i64 temp, x0], .agg (eEvent e)] σ (PlayK s temp cells e σ) := by
  refine CallBM cf50m rfl fun hl => ?_
  try simp only [q]
  clear hl
  have hpos := can_pos ht hc
  have hfew := hok.few
  simp only [AV.cell] at hx0
  (try ((repeat (revert hN; revert N; apply Pn.out)); refine wk (tw @hx0 @eEvent.eq_1) ?_; (repeat (refine Pn.mk ?_; intro N hN))))
  refine .inr ?_
  refine Call_mono _ _ _ _ _ (fun r σ1 hq => ?_) (hclone _ ⟨by (try dsimp only); omega, fun j hj => sd (vne hj)⟩)
  obtain ⟨x, ids, rfl, hO, hni, hk1, hk2⟩ := hq
  rcases hO with ⟨rfl, _⟩ | ⟨aid, rows, is, rfl, hg, hR, rfl⟩
  · simp at hpos
  simp only [] at hk1 hni
  have hver : ∀ i ∈ aid :: is, i.ver < σ1.next := fun i hi => (hni.2 i hi).2
  have hlow : ∀ i ∈ aid :: is, σ.next < i.ver := fun i hi => by have := (hni.2 i hi).1; omega
  have hnd := hni.1
  have hav := hver aid (by simp)
  have hal := hlow aid (by simp)
  have hrl := hR.len
  have f2 := hk2 ⟨50000000, σ.next⟩ (by (try dsimp only); omega)
  have f3 := hk2 ⟨50000001, σ.next⟩ (by (try dsimp only); omega)
  have f4 := hk2 ⟨50000002, σ.next⟩ (by (try dsimp only); omega)
  simp only [go_sem, ↓reduceIte, Nat.reduceEqDiff, Nat.reduceAdd, Nat.reduceSub, Nat.reduceLeDiff, reduceCtorEq] at f2 f3 f4
  -- what is seen by value
  have hW : ∀ g : Rows, (∀ i ∈ aid :: is, g i = σ1.get i) → ∀ q : D_Point, fzRow (rw_ g) 6 [.agg [.sl (s.g_Glues.map eGlue), .sl (s.g_Tiles.map eTile), .int .i64 temp, .own aid 0 cells.length], .agg [.int .i64 q.g_X, .int .i64 q.g_Y]] = some [.agg (eWorld s temp cells), .agg (ePoint q)] := fun g hgi q => by
    have h1 := fz_rowsN 2 (hR.frame cellOk fun i hi => hgi i (by simp [hi])) ((hgi aid (by simp)).trans hg)
    simp only [fzRow_cons, fzRow_nil, h1, fz_agg, fz_int, fz_sl, Option.map_some]; rfl
  have hB : ∀ g : Rows, (∀ i ∈ aid :: is, g i = σ1.get i) → ∀ q : D_Point, fzRow (rw_ g) 6 [.own aid 0 cells.length, .agg [.int .i64 q.g_X, .int .i64 q.g_Y], .fn 91 []] = some [.sl (cells.map eCell), .agg (ePoint q), .fn 91 []] := fun g hgi q => by
    have h1 := fz_rowsN 3 (hR.frame cellOk fun i hi => hgi i (by simp [hi])) ((hgi aid (by simp)).trans hg)
    simp only [fzRow_cons, fzRow_nil, h1, fz_agg, fz_int, fz_fn, List.all_nil, if_true, Option.map_some]; rfl
  have hF : ∀ g : Rows, (∀ i ∈ aid :: is, g i = σ1.get i) → fz (rw_ g) 6 (.own aid 0 cells.length) = some (.sl (cells.map eCell)) := fun g hgi => fz_rows (hR.frame cellOk fun i hi => hgi i (by simp [hi])) ((hgi aid (by simp)).trans hg)
  refine hN _ _ ?_
  clear hN N
  have x1 : ∀ s0, (aid = ⟨s0, σ.next⟩) = False ∧ (⟨s0, σ.next⟩ = aid) = False := fun s0 => by
    have := ver_ne (a := ⟨s0, σ.next⟩) (b := aid) hal
    exact ⟨this.2, this.1⟩
  have hRC : RisC cells := hok.ris
  (try ((repeat (revert hN; revert N; apply Pn.out)); refine wk (tw @f2 (tw @f3 (tw @f4 (tw (vne hav) (tw @x1 @eEvent.eq_1))))) ?_; (repeat (refine Pn.mk ?_; intro N hN))))
  refine .inl ⟨_, RetS.x (at_v s temp cells e.g_At hRC (by omega)) (hW _ (fun i hi => sd (vne (hver i hi))) e.g_At), ?_⟩
  refine hN _ _ ?_
  clear hN N
  by_cases hk : e.g_Kind = 1
  · have h1 := can1 hc hk
    by_cases hfull : 80 ≤ cells.length
    · have c1 : (80 : Int) ≤ (cells.length : Int) := by omega
      have hfe : fullE cells e = true := by simp [fullE, hk, hfull]
      (try ((repeat (revert hN; revert N; apply Pn.out)); refine wk (tw @f2 (tw @f3 (tw @f4 (tw @hg (tw (vne hav) (tw @x1 (tw @hk (tw @c1 @eEvent.eq_1)))))))) ?_; (repeat (refine Pn.mk ?_; intro N hN))))
      refine retO (.inl rfl) (by simp only [vresL, vres1, go_sem, ↓reduceIte, Nat.reduceEqDiff, Nat.reduceAdd, Nat.reduceSub, Nat.reduceLeDiff, reduceCtorEq, f4]; rfl) ⟨_, .nils, [], by rw [hfe]; rfl, by rw [hfe]; rfl, .inl ⟨by rw [hfe]; rfl, rfl, rfl⟩, ⟨List.nodup_nil, fun i h => by cases h⟩, by (try dsimp only); omega, fun j hj => ?_⟩
      have h2 := hk2 j (by (try dsimp only); omega)
      simp only [go_sem, ↓reduceIte, Nat.reduceEqDiff, Nat.reduceAdd, Nat.reduceSub, Nat.reduceLeDiff, reduceCtorEq, vne hj] at h2
      simp only [go_sem, ↓reduceIte, Nat.reduceEqDiff, Nat.reduceAdd, Nat.reduceSub, Nat.reduceLeDiff, reduceCtorEq, vne hj, vne (show j.ver < σ1.next by omega), h2]
    · have c1 : ¬ (80 : Int) ≤ (cells.length : Int) := by omega
      have hfe : fullE cells e = false := by simp [fullE, hk, hfull]
      (try ((repeat (revert hN; revert N; apply Pn.out)); refine wk (tw @f2 (tw @f3 (tw @f4 (tw @hg (tw (vne hav) (tw @x1 (tw @hk (tw @c1 @eEvent.eq_1)))))))) ?_; (repeat (refine Pn.mk ?_; intro N hN))))
      have hlp := low_put h1.free
      have hm := putPos_le cells e.g_At
      have hT := hok.set.form _ (tile_mem h1.n0 h1.n1)
      have h6 := (hok.set.tiles e.g_Num.toNat (by have := h1.n1; have := h1.n0; omega)).few
      rw [← tileAt_N] at h6
      refine .inl ⟨_, RetS.x (bsearchF_v 91 cells e.g_At (fun c => play1_v c _) hRC (by omega)) (hB _ (fun i hi => sd (vne (hver i hi))) e.g_At), ?_⟩
      refine hN _ _ ?_
      clear hN N
      rw [hlp]
      (try ((repeat (revert hN; revert N; apply Pn.out)); refine wk (tw @f2 (tw @f3 (tw @f4 (tw @hg (tw (vne hav) (tw @x1 (tw @hk @eEvent.eq_1))))))) ?_; (repeat (refine Pn.mk ?_; intro N hN))))
      refine w_both ?_ ?_
      all_goals
        (try ((repeat (revert hN; revert N; apply Pn.out)); refine wk (tw @f2 (tw @f3 (tw @f4 (tw @hg (tw (vne hav) (tw @x1 (tw @hk @eEvent.eq_1))))))) ?_; (repeat (refine Pn.mk ?_; intro N hN))))
        refine .inr ?_
        refine Call_mono _ _ _ _ _ (fun r σ2 hq => ?_) (newCellO_v s e.g_At e.g_Num h1.n0 h1.n1 hT h6 _)
        obtain ⟨ncs, nids, rfl, hnc, hni2, hn1, hn2⟩ := hq
        simp only [] at hn1 hni2
        have n1 := cellOk.len hnc
        have n2 := cellOk.cell hnc
        have g1 := hn2 aid (by (try dsimp only); omega)
        have g2 := hn2 ⟨50000000, σ.next⟩ (by (try dsimp only); omega)
        have g3 := hn2 ⟨50000001, σ.next⟩ (by (try dsimp only); omega)
        have g4 := hn2 ⟨50000002, σ.next⟩ (by (try dsimp only); omega)
        have g5 := hn2 ⟨50001002, σ1.next⟩ (by (try dsimp only); omega)
        simp only [go_sem, ↓reduceIte, Nat.reduceEqDiff, Nat.reduceAdd, Nat.reduceSub, Nat.reduceLeDiff, reduceCtorEq, hg, f2, f3, f4, vne hav, x1] at g1 g2 g3 g4 g5
        have w2 := vne (i := aid) (n := σ2.next) (by omega)
        refine hN _ _ ?_
        clear hN N
        (try ((repeat (revert hN; revert N; apply Pn.out)); refine wk (tw @g1 (tw @g2 (tw @g3 (tw @g4 (tw @g5 (tw @w2 (tw @x1 (tw @hk (tw @n1 (tw @n2 @eEvent.eq_1)))))))))) ?_; (repeat (refine Pn.mk ?_; intro N hN))))
        have hins := insert_v ⟨setR σ2.get ⟨50008010, σ2.next⟩ ⟨true, 6, [ncs]⟩, σ2.next + 1⟩ aid ⟨50008010, σ2.next⟩ rows ncs (putPos cells e.g_At) (sd (tw @g1 @w2)) (sd @Nat.zero_add) (sd @w2) (by rw [hrl]; exact hm) (by omega) (by omega)
        rw [hrl] at hins
        refine .inr ?_
        refine Call_mono _ _ _ _ _ (fun r σ3 hq => ?_) hins
        obtain ⟨oid, rfl, ho, hcase, hle, hfr⟩ := hq
        simp only [] at hcase hle hfr
        have p2 := hfr ⟨50000000, σ.next⟩ (by (try dsimp only); omega) (fun h => by rw [← h] at hal; simp at hal)
        have p3 := hfr ⟨50000001, σ.next⟩ (by (try dsimp only); omega) (fun h => by rw [← h] at hal; simp at hal)
        have p4 := hfr ⟨50000002, σ.next⟩ (by (try dsimp only); omega) (fun h => by rw [← h] at hal; simp at hal)
        have p5 := hfr ⟨50001002, σ1.next⟩ (by (try dsimp only); omega) (fun h => by rw [← h] at hav; simp at hav)
        simp only [go_sem, ↓reduceIte, Nat.reduceEqDiff, Nat.reduceAdd, Nat.reduceSub, Nat.reduceLeDiff, reduceCtorEq, g2, g3, g4, g5] at p2 p3 p4 p5
        refine hN _ _ ?_
        clear hN N
        (try ((repeat (revert hN; revert N; apply Pn.out)); refine wk (tw @p2 (tw @p3 (tw @p4 (tw @p5 (tw @x1 (tw @hk @eEvent.eq_1)))))) ?_; (repeat (refine Pn.mk ?_; intro N hN))))
        have hol : σ.next < oid.ver ∧ oid.ver ≠ σ1.next := by
          rcases hcase with h | h
          · rw [h]; exact ⟨hal, by omega⟩
          · exact ⟨by omega, by omega⟩
        have hox : oid.ver < σ3.next := by
          rcases hcase with h | h
          · rw [h]; omega
          · exact h.2
        have hni0 : ∀ i ∈ nids, σ1.next < i.ver ∧ i.ver < σ2.next := fun i hi => by have := hni2.2 i hi; omega
        have hoi : oid ∉ is := fun h => by
          rcases hcase with h' | h'
          · rw [h'] at h; exact (List.nodup_cons.1 hnd).1 h
          · have := hver oid (by simp [h]); omega
        have hon : oid ∉ nids := fun h => by
          have := hni0 _ h
          rcases hcase with h' | h'
          · rw [h'] at this; omega
          · omega
        have old : ∀ j : Id, j.ver < σ1.next → j ≠ aid → j.ver ≠ σ.next → σ3.get j = σ1.get j := fun j h1 h2 h3 => by
          have e1 := hfr j (by omega) h2
          have e2 := hn2 j (by (try dsimp only); omega)
          simp only [go_sem, ↓reduceIte, Nat.reduceEqDiff, Nat.reduceAdd, Nat.reduceSub, Nat.reduceLeDiff, reduceCtorEq, vne h1] at e2
          simp only [go_sem, ↓reduceIte, Nat.reduceEqDiff, Nat.reduceAdd, Nat.reduceSub, Nat.reduceLeDiff, reduceCtorEq, vne (show j.ver < σ2.next by omega), e2] at e1
          exact e1
        have fin : ∀ (R1 R2 : Row) (j : Id), j.ver ≠ σ.next → j.ver ≠ σ1.next → setR (setR σ3.get ⟨50001002, σ1.next⟩ R1) ⟨50000002, σ.next⟩ R2 j = σ3.get j := fun R1 R2 j h1 h2 => by
          have e1 : ¬ j = ⟨50000002, σ.next⟩ := fun e => by rw [e] at h1; exact h1 rfl
          have e2 : ¬ j = ⟨50001002, σ1.next⟩ := fun e => by rw [e] at h2; exact h2 rfl
          simp only [setR, e1, e2, if_false]
        have hR3 : ∀ (R1 R2 : Row), RowsN CellO (setR (setR σ3.get ⟨50001002, σ1.next⟩ R1) ⟨50000002, σ.next⟩ R2) rows cells is := fun R1 R2 => hR.frame cellOk fun i hi => by
          have h1 := hver i (by simp [hi])
          have h2 := hlow i (by simp [hi])
          rw [fin R1 R2 i (by omega) (by omega)]
          exact old i h1 (fun h => (List.nodup_cons.1 hnd).1 (h ▸ hi)) (by omega)
        have hN3 : ∀ (R1 R2 : Row), CellO (setR (setR σ3.get ⟨50001002, σ1.next⟩ R1) ⟨50000002, σ.next⟩ R2) ncs (bornC s e.g_At e.g_Num) nids := fun R1 R2 => cellOk.frame hnc fun i hi => by
          have h1 := hni0 i hi
          rw [fin R1 R2 i (by omega) (by omega), hfr i (by omega) (fun h => by rw [h] at h1; omega)]
          simp only [go_sem, ↓reduceIte, Nat.reduceEqDiff, Nat.reduceAdd, Nat.reduceSub, Nat.reduceLeDiff, reduceCtorEq, vne h1.2]
        have hdo : doE s cells e = putC cells e.g_At (bornC s e.g_At e.g_Num) := by simp [doE, hk]
        have key : ∀ (R1 R2 : Row) (nx : Nat), σ3.next ≤ nx → PlayK s temp cells e σ (.tup [.agg [.sl (s.g_Glues.map eGlue), .sl (s.g_Tiles.map eTile), .int .i64 temp, .own oid 0 (cells.length + 1)], .int .i64 0]) ⟨setR (setR σ3.get ⟨50001002, σ1.next⟩ R1) ⟨50000002, σ.next⟩ R2, nx⟩ := fun R1 R2 nx hnx => by
          obtain ⟨i1, i2, he, hP⟩ := put_rows (hR3 R1 R2) (hN3 R1 R2) (putPos cells e.g_At) hm
          refine ⟨_, .own oid 0 (cells.length + 1), oid :: (i1 ++ (nids ++ i2)), by rw [hfe]; rfl, by rw [hfe]; rfl, .inr ⟨oid, _, _, ?_, ?_, by rw [hfe, if_neg (by simp), hdo]; exact hP, rfl⟩, ⟨nodup_put hnd he hver hni2.1 (fun i hi => by have := hni0 i hi; omega) hoi hon, fun i hi => ?_⟩, by (try dsimp only); omega, fun j hj => ?_⟩
          · rw [hfe, if_neg (by simp), hdo, putC_len]
          · simp only []
            rw [fin R1 R2 oid (by omega) hol.2]
            exact ho
          · (try dsimp only)
            rcases List.mem_cons.1 hi with rfl | hi
            · omega
            · have hio : i ∈ is → σ.next ≤ i.ver ∧ i.ver < nx := fun h => by
                have := hver i (by simp [h]); have := hlow i (by simp [h]); omega
              rcases List.mem_append.1 hi with hi | hi
              · exact hio (by rw [he]; simp [hi])
              · rcases List.mem_append.1 hi with hi | hi
                · have := hni0 i hi; omega
                · exact hio (by rw [he]; simp [hi])
          · simp only []
            rw [fin R1 R2 j (by omega) (by omega), old j (by omega) (fun h => by rw [h] at hj; omega) (by omega)]
            have e1 := hk2 j (by (try dsimp only); omega)
            simp only [go_sem, ↓reduceIte, Nat.reduceEqDiff, Nat.reduceAdd, Nat.reduceSub, Nat.reduceLeDiff, reduceCtorEq, vne hj] at e1
            exact e1
        refine retO (vs := [.agg [.sl (s.g_Glues.map eGlue), .sl (s.g_Tiles.map eTile), .int .i64 temp, .own oid 0 (cells.length + 1)], .int .i64 0]) (.inl rfl) (by simp only [vresL, vres1, go_sem, ↓reduceIte, Nat.reduceEqDiff, Nat.reduceAdd, Nat.reduceSub, Nat.reduceLeDiff, reduceCtorEq, p4]) ?_
        exact key _ _ _ (by omega)
  have hfe : fullE cells e = false := by simp [fullE, hk]
  have hnd2 := (List.nodup_cons.1 hnd).2
  by_cases hk2' : e.g_Kind = 2
  · have h2 := can2 hc hk2'
    have hdo : doE s cells e = bindL cells e := by simp [doE, hk2']
    have hidx : idxI cells e.g_At = (idxN cells e.g_At : Int) := if_pos h2.at_
    have hfm := hok.form _ (List.getElem_mem h2.at_)
    have hat := idx_at h2.at_
    rw [cellAt_eq h2.at_] at hat
    have hpt := hfm.at_
    rw [hat] at hpt
    have hp1 : 0 < (cells[idxN cells e.g_At]'h2.at_).g_Bound.length := by rw [(hok.form _ (List.getElem_mem h2.at_)).bound]; omega
    have hp2 : 0 < (cells[nextI cells e]'h2.next).g_Bound.length := by rw [(hok.form _ (List.getElem_mem h2.next)).bound]; omega
    obtain ⟨a1, b1, c1, r1, m1, g1, t1⟩ := at_bound hR hnd2 (idxN cells e.g_At) h2.at_ hp1
    obtain ⟨a2, b2, c2, r2, m2, g2, t2⟩ := at_bound hR hnd2 (nextI cells e) h2.next hp2
    have hne := bound_ne hR hnd2 h2.at_ h2.next (fun h => h2.ne h.symm) hp1 r1 r2
    have hne' : ¬ b2 = b1 := fun h => hne h.symm
    have w1 := vne (hver b1 (List.mem_cons_of_mem _ m1))
    have w2 := vne (hver b2 (List.mem_cons_of_mem _ m2))
    have u1 : ¬ aid = b1 := fun h => (List.nodup_cons.1 hnd).1 (h ▸ m1)
    have u2 : ¬ aid = b2 := fun h => (List.nodup_cons.1 hnd).1 (h ▸ m2)
    have xs : ∀ j : Id, σ.next < j.ver → ∀ s0, (j = ⟨s0, σ.next⟩) = False ∧ (⟨s0, σ.next⟩ = j) = False := fun j hj s0 => by
      have := ver_ne (a := ⟨s0, σ.next⟩) (b := j) hj
      exact ⟨this.2, this.1⟩
    have y1 := xs b1 (hlow b1 (List.mem_cons_of_mem _ m1))
    have y2 := xs b2 (hlow b2 (List.mem_cons_of_mem _ m2))
    have hd : inB e.g_Num 0 3 = true := inB_of (by rcases h2.num with h | h <;> omega)
    have hop := opp_in hd
    have d0 := (inB_true hd).1
    have o0 := (inB_true hop).1
    have b41 := (hok.form _ (List.getElem_mem h2.at_)).bound
    have b42 := (hok.form _ (List.getElem_mem h2.next)).bound
    have q1 := bool_get b41 hd
    have q2 := bool_get b42 hop
    have l1 : e.g_Num < ((cells[idxN cells e.g_At]'h2.at_).g_Bound.length : Int) := by have := (inB_true hd).2; omega
    have l2 : oppI e.g_Num < ((cells[nextI cells e]'h2.next).g_Bound.length : Int) := by have := (inB_true hop).2; omega
    have i1 : (idxN cells e.g_At : Int) < (cells.length : Int) := by have := h2.at_; omega
    have i2 : (nextI cells e : Int) < (cells.length : Int) := by have := h2.next; omega
    have hc1 := cellAt_eq h2.at_
    generalize hC1 : cells[idxN cells e.g_At]'h2.at_ = C1 at *
    generalize hC2 : cells[nextI cells e]'h2.next = C2 at *
    have e1 : ∀ (l : List Bool) n, (l.map eBool).set n [AV.bool true] = (l.set n true).map eBool := fun l n => set_map eBool l n true
    have hRC1 : RisC (cells.set (idxN cells e.g_At) (bindC C1 e.g_Num)) := fun i j hij hj => by
      have key : ∀ j, (cellAt (cells.set (idxN cells e.g_At) (bindC C1 e.g_Num)) j).g_At = (cellAt cells j).g_At := fun j => by
        rw [cellAt_set h2.at_]
        split
        · rename_i h; rw [← h, hc1]; rfl
        · rfl
      rw [key, key]; exact hRC i j hij (by simpa using hj)
    have hnx : idxI (cells.set (idxN cells e.g_At) (bindC C1 e.g_Num)) (stepP e.g_At e.g_Num) = (nextI cells e : Int) := by
      rw [idx_set h2.at_ (by rw [hc1]; rfl)]; exact if_pos h2.next
    have hW1 : ∀ g : Rows, g b1 = some ⟨true, 1, (C1.g_Bound.map eBool).set e.g_Num.toNat [AV.bool true]⟩ → (∀ i ∈ aid :: is, i ≠ b1 → g i = σ1.get i) → ∀ q : D_Point, fzRow (rw_ g) 6 [.agg [.sl (s.g_Glues.map eGlue), .sl (s.g_Tiles.map eTile), .int .i64 temp, .own aid 0 cells.length], .agg [.int .i64 q.g_X, .int .i64 q.g_Y]] = some [.agg (eWorld s temp (cells.set (idxN cells e.g_At) (bindC C1 e.g_Num))), .agg (ePoint q)] := fun g hg1 hgi q => by
      have h1 := fz_rowsN 2 (t1 g (C1.g_Bound.set e.g_Num.toNat true) (by rw [hg1, e1]) (by simp) (fun i hi hne => hgi i (by simp [hi]) hne)) ((hgi aid (by simp) u1).trans hg)
      rw [List.length_set] at h1
      simp only [fzRow_cons, fzRow_nil, h1, fz_agg, fz_int, fz_sl, Option.map_some]; rfl
    (repeat (first | ((repeat (revert hN; revert N; apply Pn.out)); refine wk (tw @f2 (tw @f3 (tw @f4 (tw @hg (tw (vne hav) (tw @x1 (tw @hk (tw @hk2' (tw @hidx (tw @r1 (tw @r2 (tw @g1 (tw @g2 (tw @w1 (tw @w2 (tw @y1 (tw @y2 (tw @u1 (tw @u2 (tw @hne (tw @hne' (tw @d0 (tw @l1 (tw @i1 (tw @q1 (tw @eBool.eq_1 (tw @eEvent.eq_1 @ePoint.eq_1))))))))))))))))))))))))))) ?_; (repeat (refine Pn.mk ?_; intro N hN))) | ((try apply Or.inl); refine ⟨_, Ret.x (step_v e.g_At e.g_Num hd hpt) _, ?_⟩; refine hN _ _ ?_; clear hN N)))
    refine ⟨_, RetS.x (at_v s temp _ (stepP e.g_At e.g_Num) hRC1 (by simp; omega)) (hW1 _ (sd @w1) (fun i hi hn => sd (tw (vne (hver i hi)) @hn)) _), ?_⟩
    refine hN _ _ ?_
    clear hN N
    rw [hnx]
    have hopv := opposite_v e.g_Num d0 (inB_true hd).2
    (repeat (first | ((repeat (revert hN; revert N; apply Pn.out)); refine wk (tw @f2 (tw @f3 (tw @f4 (tw @hg (tw (vne hav) (tw @x1 (tw @hk (tw @hk2' (tw @hidx (tw @r1 (tw @r2 (tw @g1 (tw @g2 (tw @w1 (tw @w2 (tw @y1 (tw @y2 (tw @u1 (tw @u2 (tw @hne (tw @hne' (tw @d0 (tw @o0 (tw @l1 (tw @l2 (tw @i1 (tw @i2 (tw @q1 (tw @q2 (tw (opp_eq hd) (tw @eBool.eq_1 (tw @eEvent.eq_1 @ePoint.eq_1)))))))))))))))))))))))))))))))) ?_; (repeat (refine Pn.mk ?_; intro N hN))) | ((try apply Or.inl); refine ⟨_, Ret.x (hopv) _, ?_⟩; refine hN _ _ ?_; clear hN N)))
    have key : ∀ (R0 R1 R2 : Row) (nx : Nat), σ1.next ≤ nx → PlayK s temp cells e σ (.tup [.agg [.sl (s.g_Glues.map eGlue), .sl (s.g_Tiles.map eTile), .int .i64 temp, .own aid 0 cells.length], .int .i64 0]) ⟨setR (setR (setR (setR (setR σ1.get ⟨50001002, σ1.next⟩ R0) ⟨50001002, σ1.next⟩ R1) b1 ⟨true, 1, (C1.g_Bound.map eBool).set e.g_Num.toNat [AV.bool true]⟩) b2 ⟨true, 1, (C2.g_Bound.map eBool).set (oppI e.g_Num).toNat [AV.bool true]⟩) ⟨50000002, σ.next⟩ R2, nx⟩ := fun R0 R1 R2 nx hnx => by
      have k1 : RowsN CellO (setR (setR (setR σ1.get ⟨50001002, σ1.next⟩ R0) ⟨50001002, σ1.next⟩ R1) b1 ⟨true, 1, (C1.g_Bound.map eBool).set e.g_Num.toNat [AV.bool true]⟩) rows (cells.set (idxN cells e.g_At) (bindC C1 e.g_Num)) is :=
        t1 _ (C1.g_Bound.set e.g_Num.toNat true) (sd @e1) (by simp) fun j hj hjn => by simp only [go_sem, ↓reduceIte, Nat.reduceEqDiff, Nat.reduceAdd, Nat.reduceSub, Nat.reduceLeDiff, reduceCtorEq, vne (hver j (List.mem_cons_of_mem _ hj)), hjn]
      have hgs : (cells.set (idxN cells e.g_At) (bindC C1 e.g_Num))[nextI cells e]'(by simpa using h2.next) = C2 := by
        rw [List.getElem_set_ne (fun h => h2.ne h.symm)]; exact hC2
      obtain ⟨a3, b3, f3, r3, _, g3, t3⟩ := at_bound k1 hnd2 (nextI cells e) (by simpa using h2.next) (by rw [hgs]; exact hp2)
      rw [hgs] at r3 t3
      rw [r2] at r3
      simp only [Option.some.injEq, List.cons.injEq, AV.own.injEq] at r3
      obtain ⟨_, _, _, rfl, ⟨rfl, _⟩, rfl, _⟩ := r3
      have h := t3 (setR (setR (setR (setR (setR σ1.get ⟨50001002, σ1.next⟩ R0) ⟨50001002, σ1.next⟩ R1) b1 ⟨true, 1, (C1.g_Bound.map eBool).set e.g_Num.toNat [AV.bool true]⟩) b2 ⟨true, 1, (C2.g_Bound.map eBool).set (oppI e.g_Num).toNat [AV.bool true]⟩) ⟨50000002, σ.next⟩ R2) (C2.g_Bound.set (oppI e.g_Num).toNat true) (sd (tw @e1 @y2)) (by simp) fun j hj hjn => by simp only [go_sem, ↓reduceIte, Nat.reduceEqDiff, Nat.reduceAdd, Nat.reduceSub, Nat.reduceLeDiff, reduceCtorEq, hjn, xs j (hlow j (List.mem_cons_of_mem _ hj))]
      refine ⟨_, .own aid 0 cells.length, aid :: is, by rw [hfe]; rfl, by rw [hfe]; rfl, .inr ⟨aid, rows, is, ?_, ?_, ?_, rfl⟩, hni.wide (by omega) (by (try dsimp only); omega), by (try dsimp only); omega, fun j hj => ?_⟩
      · rw [hfe, if_neg (by simp), hdo]; simp [bindL]
      · simp only [go_sem, ↓reduceIte, Nat.reduceEqDiff, Nat.reduceAdd, Nat.reduceSub, Nat.reduceLeDiff, reduceCtorEq, x1, u1, u2, vne hav, hg]
      · rw [hfe, if_neg (by simp), hdo]
        unfold bindL
        rw [cellAt_eq h2.at_, cellAt_eq h2.next, hC1, hC2]
        exact h
      · have z0 := hk2 j (by (try dsimp only); omega)
        simp only [go_sem, ↓reduceIte, Nat.reduceEqDiff, Nat.reduceAdd, Nat.reduceSub, Nat.reduceLeDiff, reduceCtorEq, vne hj] at z0
        have z1 : ¬ j = b1 := fun h => by have := hlow b1 (List.mem_cons_of_mem _ m1); rw [h] at hj; omega
        have z2 : ¬ j = b2 := fun h => by have := hlow b2 (List.mem_cons_of_mem _ m2); rw [h] at hj; omega
        simp only [go_sem, ↓reduceIte, Nat.reduceEqDiff, Nat.reduceAdd, Nat.reduceSub, Nat.reduceLeDiff, reduceCtorEq, vne hj, vne (show j.ver < σ1.next by omega), z1, z2, z0]
    refine retO (vs := [.agg [.sl (s.g_Glues.map eGlue), .sl (s.g_Tiles.map eTile), .int .i64 temp, .own aid 0 cells.length], .int .i64 0]) (.inl rfl) (by simp only [vresL, vres1, go_sem, ↓reduceIte, Nat.reduceEqDiff, Nat.reduceAdd, Nat.reduceSub, Nat.reduceLeDiff, reduceCtorEq, f4, y1, y2, x1, vne hav]) ?_
    exact key _ _ _ _ (by omega)
  have hk3 : e.g_Kind = 3 := by rcases can_kind hc with h | h | h <;> omega
  have h3 := can3 hc hk3
  have hdo : doE s cells e = cells.set (idxN cells e.g_At) (fireC s (cellAt cells (idxN cells e.g_At)) e.g_Num) := by simp [doE, hk3]
  have hidx : idxI cells e.g_At = (idxN cells e.g_At : Int) := if_pos h3.at_
  have hfm := hok.form _ (List.getElem_mem h3.at_)
  have hn1 := h3.n1
  have hn0 := h3.n0
  rw [cellAt_eq h3.at_] at hn1 hdo
  have hp1 : 0 < (cells[idxN cells e.g_At]'h3.at_).g_Fired.length := by omega
  have hp2 : 0 < (cells[idxN cells e.g_At]'h3.at_).g_On.length := by rw [hfm.on]; omega
  obtain ⟨a1, b1, c1, r1, m1, g1, t1⟩ := at_fired hR hnd2 (idxN cells e.g_At) h3.at_ hp1
  obtain ⟨a2, b2, c2, r2, m2, g2, t2⟩ := at_on hR hnd2 (idxN cells e.g_At) h3.at_ hp2
  have r2' := r2
  rw [r1] at r2'
  simp only [Option.some.injEq, List.cons.injEq] at r2'
  obtain ⟨_, _, _, rfl, rfl, rfl, _⟩ := r2'
  clear r2
  have hne := on_ne hR hnd2 h3.at_ hp1 r1
  have hne' : ¬ c1 = a2 := fun h => hne h.symm
  have u1 : ¬ aid = c1 := fun h => (List.nodup_cons.1 hnd).1 (h ▸ m1)
  have u2 : ¬ aid = a2 := fun h => (List.nodup_cons.1 hnd).1 (h ▸ m2)
  have w1 := vne (hver c1 (List.mem_cons_of_mem _ m1))
  have w2 := vne (hver a2 (List.mem_cons_of_mem _ m2))
  have xs : ∀ j : Id, σ.next < j.ver → ∀ s0, (j = ⟨s0, σ.next⟩) = False ∧ (⟨s0, σ.next⟩ = j) = False := fun j hj s0 => by
    have := ver_ne (a := ⟨s0, σ.next⟩) (b := j) hj
    exact ⟨this.2, this.1⟩
  have y1 := xs c1 (hlow c1 (List.mem_cons_of_mem _ m1))
  have y2 := xs a2 (hlow a2 (List.mem_cons_of_mem _ m2))
  have i1 : (idxN cells e.g_At : Int) < (cells.length : Int) := by have := h3.at_; omega
  have q9 : (cells[idxN cells e.g_At]'h3.at_).g_Fired.length = (tileAt s (cells[idxN cells e.g_At]'h3.at_).g_Tile).g_Fires.length := hfm.fired
  have q2 := hfm.tile
  have ft := hok.set.form _ (tile_mem hfm.t0 hfm.t1)
  have q3 := hfm.t0
  have b4 := hfm.on
  generalize hC : cells[idxN cells e.g_At]'h3.at_ = C at *
  have hm2 : e.g_Num.toNat < (tileAt s C.g_Tile).g_Fires.length := by omega
  have g3 : ((tileAt s C.g_Tile).g_Fires.map eFire)[e.g_Num.toNat]? = some (eFire (fireAt (tileAt s C.g_Tile) e.g_Num.toNat)) := get_map eFire hm2
  have hfr := (ft.fires (fireAt (tileAt s C.g_Tile) e.g_Num.toNat) (by
        unfold fireAt
        rw [List.getD_eq_getElem?_getD, List.getElem?_eq_getElem hm2]
        exact List.getElem_mem hm2)).2
  have q1 : (C.g_Fired.map eBool)[e.g_Num.toNat]? = some (eBool (bAt C.g_Fired e.g_Num)) := get_map eBool (by omega)
  have q4 : (C.g_On.map eBool)[(fireAt (tileAt s C.g_Tile) e.g_Num.toNat).g_To.toNat]? = some (eBool (bAt C.g_On (fireAt (tileAt s C.g_Tile) e.g_Num.toNat).g_To)) := bool_get b4 hfr
  have d0 := (inB_true hfr).1
  have d1 : (fireAt (tileAt s C.g_Tile) e.g_Num.toNat).g_To < (C.g_On.length : Int) := by have := (inB_true hfr).2; omega
  (try ((repeat (revert hN; revert N; apply Pn.out)); refine wk (tw @f2 (tw @f3 (tw @f4 (tw @hg (tw (vne hav) (tw @x1 (tw @hk (tw @hk2' (tw @hk3 (tw @hidx (tw @r1 (tw @g1 (tw @g2 (tw @g3 (tw @w1 (tw @w2 (tw @y1 (tw @y2 (tw @u1 (tw @u2 (tw @hne (tw @hne' (tw @hn0 (tw @hn1 (tw @d0 (tw @d1 (tw @i1 (tw @q1 (tw @q2 (tw @q3 (tw @q4 (tw @eBool.eq_1 (tw @eTile.eq_1 (tw @eFire.eq_1 (tw @eEvent.eq_1 @ePoint.eq_1))))))))))))))))))))))))))))))))))) ?_; (repeat (refine Pn.mk ?_; intro N hN))))
  have e1 : ∀ (l : List Bool) n, (l.map eBool).set n [AV.bool true] = (l.set n true).map eBool := fun l n => set_map eBool l n true
  have key : ∀ (R0 R1 R2 : Row) (nx : Nat), σ1.next ≤ nx → PlayK s temp cells e σ (.tup [.agg [.sl (s.g_Glues.map eGlue), .sl (s.g_Tiles.map eTile), .int .i64 temp, .own aid 0 cells.length], .int .i64 0]) ⟨setR (setR (setR (setR (setR σ1.get ⟨50001002, σ1.next⟩ R0) ⟨50001002, σ1.next⟩ R1) c1 ⟨true, 1, (C.g_Fired.map eBool).set e.g_Num.toNat [AV.bool true]⟩) a2 ⟨true, 1, (C.g_On.map eBool).set (fireAt (tileAt s C.g_Tile) e.g_Num.toNat).g_To.toNat [AV.bool true]⟩) ⟨50000002, σ.next⟩ R2, nx⟩ := fun R0 R1 R2 nx hnx => by
    have k1 : RowsN CellO (setR (setR (setR σ1.get ⟨50001002, σ1.next⟩ R0) ⟨50001002, σ1.next⟩ R1) c1 ⟨true, 1, (C.g_Fired.map eBool).set e.g_Num.toNat [AV.bool true]⟩) rows (cells.set (idxN cells e.g_At) { C with g_Fired := C.g_Fired.set e.g_Num.toNat true }) is :=
      t1 _ (C.g_Fired.set e.g_Num.toNat true) (sd @e1) (by simp) fun j hj hjn => by simp only [go_sem, ↓reduceIte, Nat.reduceEqDiff, Nat.reduceAdd, Nat.reduceSub, Nat.reduceLeDiff, reduceCtorEq, vne (hver j (List.mem_cons_of_mem _ hj)), hjn]
    obtain ⟨a3, b3, f3, r3, _, g3, t3⟩ := at_on k1 hnd2 (idxN cells e.g_At) (by simpa using h3.at_) (by simpa using hp2)
    simp only [List.getElem_set_self] at r3 t3
    rw [r1] at r3
    simp only [Option.some.injEq, List.cons.injEq, AV.own.injEq] at r3
    obtain ⟨_, _, _, ⟨rfl, _⟩, rfl, rfl, _⟩ := r3
    have h := t3 (setR (setR (setR (setR (setR σ1.get ⟨50001002, σ1.next⟩ R0) ⟨50001002, σ1.next⟩ R1) c1 ⟨true, 1, (C.g_Fired.map eBool).set e.g_Num.toNat [AV.bool true]⟩) a2 ⟨true, 1, (C.g_On.map eBool).set (fireAt (tileAt s C.g_Tile) e.g_Num.toNat).g_To.toNat [AV.bool true]⟩) ⟨50000002, σ.next⟩ R2) (C.g_On.set (fireAt (tileAt s C.g_Tile) e.g_Num.toNat).g_To.toNat true) (sd (tw @e1 @y2)) (by simp) fun j hj hjn => by simp only [go_sem, ↓reduceIte, Nat.reduceEqDiff, Nat.reduceAdd, Nat.reduceSub, Nat.reduceLeDiff, reduceCtorEq, hjn, xs j (hlow j (List.mem_cons_of_mem _ hj))]
    rw [List.set_set] at h
    refine ⟨_, .own aid 0 cells.length, aid :: is, by rw [hfe]; rfl, by rw [hfe]; rfl, .inr ⟨aid, rows, is, ?_, ?_, ?_, rfl⟩, hni.wide (by omega) (by (try dsimp only); omega), by (try dsimp only); omega, fun j hj => ?_⟩
    · rw [hfe, if_neg (by simp), hdo]; simp
    · simp only [go_sem, ↓reduceIte, Nat.reduceEqDiff, Nat.reduceAdd, Nat.reduceSub, Nat.reduceLeDiff, reduceCtorEq, x1, u1, u2, vne hav, hg]
    · rw [hfe, if_neg (by simp), hdo]
      exact h
    · have z0 := hk2 j (by (try dsimp only); omega)
      simp only [go_sem, ↓reduceIte, Nat.reduceEqDiff, Nat.reduceAdd, Nat.reduceSub, Nat.reduceLeDiff, reduceCtorEq, vne hj] at z0
      have z1 : ¬ j = c1 := fun h => by have := hlow c1 (List.mem_cons_of_mem _ m1); rw [h] at hj; omega
      have z2 : ¬ j = a2 := fun h => by have := hlow a2 (List.mem_cons_of_mem _ m2); rw [h] at hj; omega
      simp only [go_sem, ↓reduceIte, Nat.reduceEqDiff, Nat.reduceAdd, Nat.reduceSub, Nat.reduceLeDiff, reduceCtorEq, vne hj, vne (show j.ver < σ1.next by omega), z1, z2, z0]
  refine retO (vs := [.agg [.sl (s.g_Glues.map eGlue), .sl (s.g_Tiles.map eTile), .int .i64 temp, .own aid 0 cells.length], .int .i64 0]) (.inl rfl) (by simp only [vresL, vres1, go_sem, ↓reduceIte, Nat.reduceEqDiff, Nat.reduceAdd, Nat.reduceSub, Nat.reduceLeDiff, reduceCtorEq, f4, y1, y2, x1, vne hav]) ?_
  exact key _ _ _ _ (by omega)

end Go.Proofs.YtpbniieiinhliaaGreat.V
