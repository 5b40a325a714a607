/- The small functions of points, directions and bounds, brought into the small language. -/
import Derived.Test.YtpbniieiinhliaaGreatRnB
import Derived.Test.YtpbniieiinhliaaGreatRnG
import Derived.Test.YtpbniieiinhliaaGreatRnD
import Derived.Test.YtpbniieiinhliaaGreatChecked
set_option linter.unusedVariables false
set_option linter.unusedSimpArgs false
namespace Go.Proofs.YtpbniieiinhliaaGreat.V
open Go.RowKit

theorem mixed : Tryz.prog.follows .mixedOrders = true := by kernel_rfl

variable {P : Program} {w : World} {D : Nat → Prop} {ι : Names}

theorem repL_nil {vs : Array Value} (h : RepL P w D ι [] vs) : vs = #[] := Array.eq_empty_of_size_eq_zero h.1
theorem repL_cons {a : AV} {r : List AV} {vs : Array Value} (h : RepL P w D ι (a :: r) vs) : ∃ u us, vs = (u :: us).toArray ∧ Rep P w D ι a u ∧ RepL P w D ι r us.toArray := by
  obtain ⟨h1, h2⟩ := h
  obtain ⟨l⟩ := vs
  cases l with
  | nil => simp at h1
  | cons u us =>
    obtain ⟨u', hu, hr⟩ := h2 0 a rfl
    simp at hu; subst hu
    exact ⟨u, us, rfl, hr, by simpa using h1, fun j b hj => by
      obtain ⟨v, hv, hrv⟩ := h2 (j + 1) b (by simpa using hj)
      exact ⟨v, by simpa using hv, hrv⟩⟩
theorem rep_cells2 {a b : AV} {v : Value} {x y : Value} (h : Rep P w D ι (.agg [a, b]) v) (ha : ∀ u, Rep P w D ι a u → u = x) (hb : ∀ u, Rep P w D ι b u → u = y) : v = .agg #[x, y] := by
  obtain ⟨vs, f, rfl, h1, _, h3, h4⟩ := rep_agg h
  obtain ⟨l⟩ := vs
  simp at h1
  obtain ⟨p, q, rfl⟩ : ∃ p q, l = [p, q] := by
    match l, h1 with
    | [p, q], _ => exact ⟨p, q, rfl⟩
  have e1 := ha _ (h4 0 a rfl)
  have e2 := hb _ (h4 1 b rfl)
  have g1 := h3 0 (by simp)
  have g2 := h3 1 (by simp)
  simp at g1 g2
  rw [g1, g2, e1, e2]

def ePoint (p : D_Point) : List AV := [.int .i64 p.g_X, .int .i64 p.g_Y]
theorem rep_point {p : D_Point} {v : Value} (h : Rep P w D ι (.agg (ePoint p)) v) : v = .agg #[.int .i64 p.g_X, .int .i64 p.g_Y] := rep_cells2 h (fun _ => rep_int) fun _ => rep_int
theorem rep_agg2 (k1 k2 : IntKind) (x y : Int) : Rep P w D ι (.agg [.int k1 x, .int k2 y]) (.agg #[.int k1 x, .int k2 y]) := by
  refine .imm _ _ (.agg _ _ (fun j => if j = 0 then .int k1 x else .int k2 y) rfl (by simp [AV.cell]) (fun j hj => ?_) (fun j a ha => ?_))
  · have : j = 0 ∨ j = 1 := by simp at hj; omega
    rcases this with rfl | rfl <;> rfl
  · match j, ha with
    | 0, ha => simp at ha; subst ha; exact .int _ _
    | 1, ha => simp at ha; subst ha; exact .int _ _
    | j + 2, ha => simp at ha
theorem fz_agg2 (g : Rows) (n : Nat) (k1 k2 : IntKind) (x y : Int) : fz g (n + 2) (.agg [.int k1 x, .int k2 y]) = some (.agg [.int k1 x, .int k2 y]) := by
  rw [fz]
  simp [fzRow, fz_int]

/-- A contract of a function over plain values, brought into the small language. -/
theorem ret_of_below {f : Nat} {args : List AV} {r : AV} {vs0 : Array Value} {u0 : Value} (hargs : ∀ (w : World) (D : Nat → Prop) (ι : Names) vs, RepL P w D ι args vs → vs = vs0) (hr : ∀ (w : World) (D : Nat → Prop) (ι : Names), Rep P w D ι r u0) (hfz : ∀ g, fz g 6 r = some r)
    (h : ∀ w, Calls P f vs0 w fun e w' => e = .returned u0 ∧ Below w.heap.size w w') : Ret P f args r := by
  intro σ
  refine Call_world fun hs D ι w vs S U A => ?_
  have := hargs w D ι vs A
  subst this
  refine (h w).mono ?_
  rintro e w' ⟨rfl, hb⟩
  exact ⟨r, _, σ.next, D, ι, u0, rfl, ⟨r, hfz _, rfl⟩, Step.stay S hb.block hb.size hb.os hb.tape hb.output (fun _ h => h) (fun _ h => .inl h) (fun _ _ h => h),
    S.stay hb.block hb.size (fun _ h => h) (fun b hd => Nat.lt_of_lt_of_le (S.dead b hd) hb.size) (fun _ h => .inl h) (fun _ _ h => h), U, Nat.le_refl _, hr _ _ _⟩
theorem same_below {P : Program} {f : Nat} {vs : Array Value} {u : Value} (h : ∀ w, Calls P f vs w fun e w' => e = .returned u ∧ w = w') : ∀ w, Calls P f vs w fun e w' => e = .returned u ∧ Below w.heap.size w w' := fun w => (h w).mono (by rintro e w' ⟨rfl, rfl⟩; exact ⟨rfl, Below.refl _ _⟩)

theorem args1 {a : AV} {x : Value} (h : ∀ (w : World) (D : Nat → Prop) (ι : Names) u, Rep P w D ι a u → u = x) : ∀ (w : World) (D : Nat → Prop) (ι : Names) vs, RepL P w D ι [a] vs → vs = #[x] := fun w D ι vs hv => by
  obtain ⟨u, us, rfl, h1, h2⟩ := repL_cons hv
  have := repL_nil h2
  simp at this; subst this
  rw [h _ _ _ _ h1]
theorem args2 {a b : AV} {x y : Value} (h : ∀ (w : World) (D : Nat → Prop) (ι : Names) u, Rep P w D ι a u → u = x) (hb : ∀ (w : World) (D : Nat → Prop) (ι : Names) u, Rep P w D ι b u → u = y) : ∀ (w : World) (D : Nat → Prop) (ι : Names) vs, RepL P w D ι [a, b] vs → vs = #[x, y] := fun w D ι vs hv => by
  obtain ⟨u, us, rfl, h1, h2⟩ := repL_cons hv
  obtain ⟨u', us', h3, h4, h5⟩ := repL_cons h2
  simp at h3; subst h3
  have := repL_nil h5
  simp at this; subst this
  rw [h _ _ _ _ h1, hb _ _ _ _ h4]
theorem args3 {a b c : AV} {x y z : Value} (h : ∀ (w : World) (D : Nat → Prop) (ι : Names) u, Rep P w D ι a u → u = x) (hb : ∀ (w : World) (D : Nat → Prop) (ι : Names) u, Rep P w D ι b u → u = y) (hc : ∀ (w : World) (D : Nat → Prop) (ι : Names) u, Rep P w D ι c u → u = z) : ∀ (w : World) (D : Nat → Prop) (ι : Names) vs, RepL P w D ι [a, b, c] vs → vs = #[x, y, z] := fun w D ι vs hv => by
  obtain ⟨u, us, rfl, h1, h2⟩ := repL_cons hv
  obtain ⟨u', us', h3, h4, h5⟩ := repL_cons h2
  simp at h3; subst h3
  obtain ⟨u2, us2, h6, h7, h8⟩ := repL_cons h5
  simp at h6; subst h6
  have := repL_nil h8
  simp at this; subst this
  rw [h _ _ _ _ h1, hb _ _ _ _ h4, hc _ _ _ _ h7]

theorem l00In_v (n lo hi : Int) : Ret Tryz.prog 53 [.int .i64 n, .int .i64 lo, .int .i64 hi] (.bool (inB n lo hi)) :=
  ret_of_below (args3 (fun _ _ _ _ => rep_int) (fun _ _ _ _ => rep_int) (fun _ _ _ _ => rep_int)) (fun _ _ _ => .imm _ _ (.bool _)) (fun g => fz_bool g 5 _) (same_below fun w => l00In_any w n lo hi)
theorem within_v (n lo hi : Int) : Ret Tryz.prog 56 [.int .i64 n, .int .i64 lo, .int .i64 hi] (.bool (inB n lo hi)) :=
  ret_of_below (args3 (fun _ _ _ _ => rep_int) (fun _ _ _ _ => rep_int) (fun _ _ _ _ => rep_int)) (fun _ _ _ => .imm _ _ (.bool _)) (fun g => fz_bool g 5 _) (same_below fun w => within_any w n lo hi)
theorem isDir_v (d : Int) : Ret Tryz.prog 153 [.int .i64 d] (.bool (inB d 0 3)) :=
  ret_of_below (args1 (fun _ _ _ _ => rep_int)) (fun _ _ _ => .imm _ _ (.bool _)) (fun g => fz_bool g 5 _) (same_below fun w => isDir_any w d)
theorem l07Temp_v (d : Int) : Ret Tryz.prog 63 [.int .i64 d] (.bool (inB d 1 16)) :=
  ret_of_below (args1 (fun _ _ _ _ => rep_int)) (fun _ _ _ => .imm _ _ (.bool _)) (fun g => fz_bool g 5 _) (same_below fun w => l07Temp_any w d)
theorem isTemp_v (d : Int) : Ret Tryz.prog 72 [.int .i64 d] (.bool (inB d 1 16)) :=
  ret_of_below (args1 (fun _ _ _ _ => rep_int)) (fun _ _ _ => .imm _ _ (.bool _)) (fun g => fz_bool g 5 _) (same_below fun w => isTemp_any w d)
theorem Opposite_v (d : Int) : Ret Tryz.prog 87 [.int .i64 d] (.int .i64 (oppI d)) :=
  ret_of_below (args1 (fun _ _ _ _ => rep_int)) (fun _ _ _ => .imm _ _ (.int _ _)) (fun g => fz_int g 5 _ _) (same_below fun w => Opposite_any w d)
theorem opposite_v (d : Int) (h0 : 0 ≤ d) (h1 : d ≤ 3) : Ret Tryz.prog 95 [.int .i64 d] (.int .i64 ((d + 2) % 4)) :=
  ret_of_below (args1 (fun _ _ _ _ => rep_int)) (fun _ _ _ => .imm _ _ (.int _ _)) (fun g => fz_int g 5 _ _) (same_below fun w => opposite_any w d h0 h1)
theorem l01Point_v (p : D_Point) : Ret Tryz.prog 65 [.agg (ePoint p)] (.bool (ptB p)) :=
  ret_of_below (args1 (fun _ _ _ _ => rep_point)) (fun _ _ _ => .imm _ _ (.bool _)) (fun g => fz_bool g 5 _) (fun w => l01Point_any w p)
theorem validPoint_v (p : D_Point) : Ret Tryz.prog 117 [.agg (ePoint p)] (.bool (ptB p)) :=
  ret_of_below (args1 (fun _ _ _ _ => rep_point)) (fun _ _ _ => .imm _ _ (.bool _)) (fun g => fz_bool g 5 _) (fun w => validPoint_any w p)
theorem sLess_v (p q : D_Point) : Ret Tryz.prog 85 [.agg (ePoint p), .agg (ePoint q)] (.bool (ltB p q)) :=
  ret_of_below (args2 (fun _ _ _ _ => rep_point) (fun _ _ _ _ => rep_point)) (fun _ _ _ => .imm _ _ (.bool _)) (fun g => fz_bool g 5 _) (fun w => sLessPoint_any w p q)
theorem iLess_v (p q : D_Point) : Ret Tryz.prog 108 [.agg (ePoint p), .agg (ePoint q)] (.bool (ltB p q)) :=
  ret_of_below (args2 (fun _ _ _ _ => rep_point) (fun _ _ _ _ => rep_point)) (fun _ _ _ => .imm _ _ (.bool _)) (fun g => fz_bool g 5 _) (fun w => iLessPoint_any w p q)
theorem comparePoints_v (p q : D_Point) : Ret Tryz.prog 92 [.agg (ePoint p), .agg (ePoint q)] (.int .i64 (cmpP p q)) :=
  ret_of_below (args2 (fun _ _ _ _ => rep_point) (fun _ _ _ _ => rep_point)) (fun _ _ _ => .imm _ _ (.int _ _)) (fun g => fz_int g 5 _ _) (fun w => comparePoints_any w p q)
theorem l01Step_v (p : D_Point) (d : Int) (hx : iB p.g_X) (hy : iB p.g_Y) : Ret Tryz.prog 64 [.agg (ePoint p), .int .i64 d] (.agg (ePoint (stepP p d))) :=
  ret_of_below (args2 (fun _ _ _ _ => rep_point) (fun _ _ _ _ => rep_int)) (fun _ _ _ => rep_agg2 _ _ _ _) (fun g => fz_agg2 g 4 _ _ _ _) (fun w => l01Step_any w p d hx hy)
theorem step_v (p : D_Point) (d : Int) (hd : inB d 0 3 = true) (hx : ptB p = true) : Ret Tryz.prog 74 [.agg (ePoint p), .int .i64 d] (.agg (ePoint (stepP p d))) :=
  ret_of_below (args2 (fun _ _ _ _ => rep_point) (fun _ _ _ _ => rep_int)) (fun _ _ _ => rep_agg2 _ _ _ _) (fun g => fz_agg2 g 4 _ _ _ _) (fun w => step_any w p d hd hx)

theorem isIndex_v (i : Int) (n : Nat) (hn : n ≤ 9223372036854775807) : Ret Tryz.prog 135 [.int .i64 i, .int .i64 n] (.bool (inB i 0 (n - 1))) :=
  ret_of_below (args2 (fun _ _ _ _ => rep_int) (fun _ _ _ _ => rep_int)) (fun _ _ _ => .imm _ _ (.bool _)) (fun g => fz_bool g 5 _) (same_below fun w => isIndex_any w i n hn)

end Go.Proofs.YtpbniieiinhliaaGreat.V

namespace Go.Proofs.YtpbniieiinhliaaGreat.V
open Go.RowKit

def eBool (b : Bool) : List AV := [.bool b]
def eInt (n : Int) : List AV := [.int .i64 n]
def eFire (f : D_Fire) : List AV := [.int .i64 f.g_From, .int .i64 f.g_To]
def eGlue (g : D_Glue) : List AV := [.str g.g_Name, .int .i64 g.g_Strength]
def eXTile (t : XTile) : List AV := [.str t.name, .sl (t.sides.map eInt)]
def eTile (t : D_SignalTile) : List AV := [.str t.g_Name, .sl (t.g_Sides.map eInt), .sl (t.g_On.map eBool), .sl (t.g_Fires.map eFire)]
def eCell (c : D_SignalCell) : List AV := [.int .i64 c.g_At.g_X, .int .i64 c.g_At.g_Y, .int .i64 c.g_Tile, .sl (c.g_On.map eBool), .sl (c.g_Bound.map eBool), .sl (c.g_Fired.map eBool)]
def eSet (s : D_SignalSet) : List AV := [.sl (s.g_Glues.map eGlue), .sl (s.g_Tiles.map eTile)]
def eEvent (e : D_SignalEvent) : List AV := [.int .i64 e.g_Kind, .int .i64 e.g_At.g_X, .int .i64 e.g_At.g_Y, .int .i64 e.g_Num]

/-! ### Plain readings -/
def noTile : D_SignalTile := ⟨⟨#[]⟩, [], [], []⟩
def tileAt (s : D_SignalSet) (t : Int) : D_SignalTile := s.g_Tiles.getD t.toNat noTile
def sideOf (t : D_SignalTile) (d : Int) : Int := t.g_Sides.getD d.toNat 0
def bAt (l : List Bool) (d : Int) : Bool := l.getD d.toNat false
def fireAt (t : D_SignalTile) (k : Nat) : D_Fire := t.g_Fires.getD k ⟨0, 0⟩

structure FormOk (s : D_SignalSet) (c : D_SignalCell) : Prop where
  at_ : ptB c.g_At = true
  t0 : 0 ≤ c.g_Tile
  t1 : c.g_Tile < s.g_Tiles.length
  on : c.g_On.length = 4
  bound : c.g_Bound.length = 4
  fired : c.g_Fired.length = (tileAt s c.g_Tile).g_Fires.length
structure TileForm (t : D_SignalTile) : Prop where
  sides : t.g_Sides.length = 4
  on : t.g_On.length = 4
  fires : ∀ f ∈ t.g_Fires, inB f.g_From 0 3 = true ∧ inB f.g_To 0 3 = true
def SetForm (s : D_SignalSet) : Prop := ∀ t ∈ s.g_Tiles, TileForm t

theorem get_map {α β : Type} (e : α → β) {l : List α} {k : Nat} {d : α} (h : k < l.length) : (l.map e)[k]? = some (e (l.getD k d)) := by simp [List.getD_eq_getElem?_getD, h]
theorem toNat_lt {d : Int} {n : Nat} (h : d < n) (h0 : 0 ≤ d) : d.toNat < n := by omega
theorem FormOk.tile {s : D_SignalSet} {c : D_SignalCell} (h : FormOk s c) : (s.g_Tiles.map eTile)[c.g_Tile.toNat]? = some (eTile (tileAt s c.g_Tile)) := get_map eTile (toNat_lt h.t1 h.t0)
theorem tile_mem {s : D_SignalSet} {t : Int} (h0 : 0 ≤ t) (h1 : t < s.g_Tiles.length) : tileAt s t ∈ s.g_Tiles := by
  have h := toNat_lt h1 h0
  unfold tileAt
  rw [List.getD_eq_getElem?_getD, List.getElem?_eq_getElem h]
  exact List.getElem_mem h
theorem side_get {t : D_SignalTile} {d : Int} (h : TileForm t) (hd : inB d 0 3 = true) : (t.g_Sides.map eInt)[d.toNat]? = some (eInt (sideOf t d)) := by
  have := inB_true hd
  exact get_map eInt (by rw [h.sides]; omega)
theorem bool_get {l : List Bool} {d : Int} (h : l.length = 4) (hd : inB d 0 3 = true) : (l.map eBool)[d.toNat]? = some (eBool (bAt l d)) := by
  have := inB_true hd
  exact get_map eBool (by rw [h]; omega)
theorem opp_in {d : Int} (hd : inB d 0 3 = true) : inB (oppI d) 0 3 = true := by
  have := inB_true hd
  refine inB_of ?_
  rw [oppI, if_pos hd]; omega
theorem iB_of {p : D_Point} (h : ptB p = true) : iB p.g_X ∧ iB p.g_Y := by
  simp only [ptB, Bool.and_eq_true] at h
  obtain ⟨h1, h2⟩ := h
  have := inB_true h1
  have := inB_true h2
  exact ⟨⟨by omega, by omega⟩, ⟨by omega, by omega⟩⟩

def idxN (cells : List D_SignalCell) (p : D_Point) : Nat := cells.findIdx fun c => decide (c.g_At = p)
def idxI (cells : List D_SignalCell) (p : D_Point) : Int := if idxN cells p < cells.length then (idxN cells p : Int) else -1
theorem pt_eq (a b : D_Point) : (decide (a.g_X = b.g_X) && decide (a.g_Y = b.g_Y)) = decide (a = b) := by
  cases a; cases b; simp [Bool.decide_and]

end Go.Proofs.YtpbniieiinhliaaGreat.V

namespace Go.Proofs.YtpbniieiinhliaaGreat
theorem ltB_iff {a b : D_Point} : ltB a b = true ↔ a.g_Y < b.g_Y ∨ (a.g_Y = b.g_Y ∧ a.g_X < b.g_X) := by simp [ltB]
theorem ltB_false {a b : D_Point} : ltB a b = false ↔ ¬ (a.g_Y < b.g_Y ∨ (a.g_Y = b.g_Y ∧ a.g_X < b.g_X)) := by rw [← ltB_iff, Bool.not_eq_true]
theorem pt_ext {a b : D_Point} (h1 : a.g_X = b.g_X) (h2 : a.g_Y = b.g_Y) : a = b := by cases a; cases b; simp_all
theorem ltB_trans {a b c : D_Point} (h : ltB a b = true) (k : ltB b c = true) : ltB a c = true := by rw [ltB_iff] at *; omega
theorem ltB_irr {a : D_Point} : ltB a a = false := by rw [ltB_false]; omega
theorem ltB_asym {a b : D_Point} (h : ltB a b = true) : ltB b a = false := by rw [ltB_iff] at h; rw [ltB_false]; omega
theorem ltB_tri {a b : D_Point} (h : ltB a b = false) (hne : a ≠ b) : ltB b a = true := by
  rw [ltB_false] at h; rw [ltB_iff]
  by_cases hy : a.g_Y = b.g_Y
  · by_cases hx : a.g_X = b.g_X
    · exact absurd (pt_ext hx hy) hne
    · omega
  · omega
/-- Rising. -/
def Ris (l : List D_Point) : Prop := l.Pairwise fun a b => ltB a b = true
theorem Ris.nodup {l : List D_Point} (h : Ris l) : l.Nodup := by
  refine List.Pairwise.imp ?_ h
  intro a b hab hc
  subst hc
  rw [ltB_irr] at hab; cases hab
theorem Ris.ext : ∀ {l m : List D_Point}, Ris l → Ris m → (∀ x, x ∈ l ↔ x ∈ m) → l = m
  | [], [], _, _, _ => rfl
  | [], b :: m, _, _, h => absurd ((h b).2 (by simp)) (by simp)
  | a :: l, [], _, _, h => absurd ((h a).1 (by simp)) (by simp)
  | a :: l, b :: m, hl, hm, h => by
    obtain ⟨ha, hl'⟩ := List.pairwise_cons.1 hl
    obtain ⟨hb, hm'⟩ := List.pairwise_cons.1 hm
    have hab : a = b := by
      rcases List.mem_cons.1 ((h a).1 (by simp)) with h1 | h1
      · exact h1
      · rcases List.mem_cons.1 ((h b).2 (by simp)) with h2 | h2
        · exact h2.symm
        · have := ltB_asym (ha b h2); rw [hb a h1] at this; cases this
    subst hab
    have : ∀ x, x ∈ l ↔ x ∈ m := fun x => by
      constructor
      · intro hx
        rcases List.mem_cons.1 ((h x).1 (List.mem_cons_of_mem _ hx)) with h1 | h1
        · subst h1; have := ha x hx; rw [ltB_irr] at this; cases this
        · exact h1
      · intro hx
        rcases List.mem_cons.1 ((h x).2 (List.mem_cons_of_mem _ hx)) with h1 | h1
        · subst h1; have := hb x hx; rw [ltB_irr] at this; cases this
        · exact h1
    rw [Ris.ext hl' hm' this]
theorem Ris.get {l : List D_Point} (h : Ris l) {i j : Nat} (hij : i < j) (hj : j < l.length) : ltB (l[i]'(by omega)) l[j] = true := List.pairwise_iff_getElem.1 h i j (by omega) hj hij
/-- A point is put where it belongs. -/
theorem Ris.put {l : List D_Point} (h : Ris l) {p : D_Point} {j : Nat} (hj : j ≤ l.length) (h1 : ∀ i (hi : i < l.length), j ≤ i → ltB l[i] p = false) (h2 : ∀ i (hi : i < l.length), i < j → ltB l[i] p = true) (hne : ∀ hi : j < l.length, l[j] ≠ p) :
    Ris (l.take j ++ p :: l.drop j) := by
  unfold Ris
  rw [List.pairwise_append, List.pairwise_cons]
  have hp : ∀ x ∈ l.drop j, ltB p x = true := by
    intro x hx
    obtain ⟨i, hi, rfl⟩ := List.getElem_of_mem hx
    rw [List.length_drop] at hi
    rw [List.getElem_drop]
    have hlt : ltB p (l[j]'(by omega)) = true := ltB_tri (h1 j (by omega) (Nat.le_refl _)) (hne (by omega))
    rcases Nat.eq_zero_or_pos i with h0 | h0
    · subst h0; simpa using hlt
    · exact ltB_trans hlt (h.get (i := j) (j := j + i) (by omega) (by omega))
  have hq : ∀ x ∈ l.take j, ltB x p = true := by
    intro x hx
    obtain ⟨i, hi, rfl⟩ := List.getElem_of_mem hx
    rw [List.length_take] at hi
    rw [List.getElem_take]
    exact h2 i (by omega) (by omega)
  refine ⟨List.Pairwise.sublist (List.take_sublist j l) h, ⟨hp, List.Pairwise.sublist (List.drop_sublist j l) h⟩, fun a ha b hb => ?_⟩
  rcases List.mem_cons.1 hb with rfl | hb
  · exact hq a ha
  · exact ltB_trans (hq a ha) (hp b hb)
theorem put_mem {α : Type} {l : List α} {p : α} (j : Nat) (x : α) : x ∈ l.take j ++ p :: l.drop j ↔ x ∈ l ∨ x = p := by
  rw [List.mem_append, List.mem_cons]
  constructor
  · rintro (h | h | h)
    · exact .inl (List.mem_of_mem_take h)
    · exact .inr h
    · exact .inl (List.mem_of_mem_drop h)
  · rintro (h | h)
    · rw [← List.take_append_drop j l, List.mem_append] at h
      rcases h with h | h
      · exact .inl h
      · exact .inr (.inr h)
    · exact .inr (.inl h)
end Go.Proofs.YtpbniieiinhliaaGreat

namespace Go.Proofs.YtpbniieiinhliaaGreat.V
open Go.RowKit

variable {P : Program} {w : World} {D : Nat → Prop}

/-- The cells of an element stand for what it is. -/
def CellsImm (P : Program) (w : World) (D : Nat → Prop) (al : List AV) (cs : List Value) : Prop := ∀ (j : Nat) (a : AV), al[j]? = some a → ∃ u : Value, cs[j]? = some u ∧ Imm P w D a u

theorem slof_imm {α : Type} {rep : World → List Nat → List Value → α → Prop} {e : α → List AV} {sz : Nat} {f : List Nat} {v : Value} {xs : List α} (h : SlOf rep sz w f v xs) (hD : ∀ b ∈ f, D b)
    (hl : ∀ x ∈ xs, (e x).length = sz) (hc : ∀ x ∈ xs, ∀ a ∈ e x, a.cell = true) (hr : ∀ x ∈ xs, ∀ f' cs, rep w f' cs x → (∀ b ∈ f', D b) → CellsImm P w D (e x) cs) : Imm P w D (.sl (xs.map e)) v := by
  obtain ⟨A, c, rfl, h1, h2⟩ := SlOf.len h
  by_cases h0 : xs = []
  · subst h0; exact .sl0 _ _ h2
  have hpos : 0 < xs.length := List.length_pos_iff.2 h0
  obtain ⟨b, o, cs0, f0, rfl, hb, hf0, hr0, hcs0, hc0⟩ := SlOf.at_ h 0 hpos
  have key : ∀ (i : Nat) (hi : i < xs.length), ∃ cs f', (∀ x ∈ f', x ∈ f) ∧ rep w f' cs xs[i] ∧ cs.length = sz ∧ ∀ j u, cs[j]? = some u → w.cell? ⟨b, o + (i * sz + j), none⟩ = some u := by
    intro i hi
    obtain ⟨b', o', cs, f', hbo, _, hf', hr', hcs, hc'⟩ := SlOf.at_ h i hi
    simp only [Option.some.injEq, Addr.mk.injEq, and_true] at hbo
    obtain ⟨rfl, rfl⟩ := hbo
    exact ⟨cs, f', hf', hr', hcs, hc'⟩
  refine .sl _ b o _ c sz (fun i j => (w.cell? ⟨b, o + (i * sz + j), none⟩).getD Go.undef) (by simp) h1 h2 (hD b hb) ?_ ?_ ?_ ?_
  · intro cs hcs
    obtain ⟨x, hx, rfl⟩ := List.mem_map.1 hcs
    exact hl x hx
  · intro cs hcs
    obtain ⟨x, hx, rfl⟩ := List.mem_map.1 hcs
    exact hc x hx
  · intro i j hi hj
    obtain ⟨cs, f', _, _, hcs, hc'⟩ := key i hi
    rw [hc' j cs[j] (List.getElem?_eq_getElem (by omega))]
    rfl
  · intro i j cs a hcs ha
    have hi : i < xs.length := by
      have := (List.getElem?_eq_some_iff.1 hcs).1
      simpa using this
    obtain ⟨cs', f', hf', hr', hcs', hc'⟩ := key i hi
    simp [hi] at hcs
    subst hcs
    obtain ⟨u, hu, him⟩ := hr _ (List.getElem_mem hi) f' cs' hr' (fun b hb => hD b (hf' b hb)) j a ha
    rw [hc' j u hu]
    exact him

theorem imm_slof {α : Type} {rep : World → List Nat → List Value → α → Prop} {e : α → List AV} {sz : Nat} {v : Value} {xs : List α} (h : Imm P w D (.sl (xs.map e)) v)
    (hl : ∀ x ∈ xs, (e x).length = sz) (hr : ∀ x ∈ xs, ∀ cs, cs.length = sz → CellsImm P w D (e x) cs → ∃ f, (∀ b ∈ f, D b) ∧ rep w f cs x) : ∃ f, (∀ b ∈ f, D b) ∧ SlOf rep sz w f v xs := by
  generalize hra : AV.sl (xs.map e) = av at h
  cases h with
  | int | bool | str | nils | nilp | nilf | iptr | agg | fn => cases hra
  | sl0 a c hcap =>
    have h0 : xs = [] := by simpa using hra
    subst h0
    exact ⟨[], by simp, [], [], [], rfl, ⟨a, c, rfl, Nat.zero_le _, hcap, .inl ⟨rfl, rfl⟩⟩, rfl, rfl, fun i cs f d hc => by simp at hc⟩
  | sl rows b o n c sz' vs h1 h2 h3 h4 h5 h5' h6 h7 =>
    simp only [AV.sl.injEq] at hra
    subst hra
    simp only [List.length_map] at h1
    subst h1
    by_cases h0 : xs = []
    · subst h0
      exact ⟨[], by simp, [], [], [], rfl, ⟨_, c, rfl, Nat.zero_le _, h3, .inl ⟨rfl, rfl⟩⟩, rfl, rfl, fun i cs f d hc => by simp at hc⟩
    have hsz : sz' = sz := by
      obtain ⟨x, hx⟩ := List.exists_mem_of_ne_nil xs h0
      rw [← h5 _ (List.mem_map_of_mem hx), hl x hx]
    subst hsz
    have key : ∀ (i : Nat) (hi : i < xs.length), ∃ f, (∀ b ∈ f, D b) ∧ rep w f ((List.range sz').map fun j => vs i j) xs[i] := by
      intro i hi
      refine hr _ (List.getElem_mem hi) _ (by simp) fun j a ha => ?_
      have hj : j < sz' := by rw [← hl _ (List.getElem_mem hi)]; exact (List.getElem?_eq_some_iff.1 ha).1
      exact ⟨vs i j, by simp [hj], h7 i j _ a (by simp [hi]) ha⟩
    let fs : Nat → List Nat := fun i => if hi : i < xs.length then (key i hi).choose else []
    have hfs : ∀ (i : Nat) (hi : i < xs.length), (∀ b ∈ fs i, D b) ∧ rep w (fs i) ((List.range sz').map fun j => vs i j) xs[i] := by
      intro i hi
      have := (key i hi).choose_spec
      simp only [fs, dif_pos hi]
      exact this
    refine ⟨[b] ++ ((List.range xs.length).map fs).flatten, ?_, (List.range xs.length).map fun i => (List.range sz').map fun j => vs i j, (List.range xs.length).map fs, [b], rfl, ⟨_, c, rfl, h2, h3, .inr ⟨b, o, rfl, rfl, ?_⟩⟩, by simp, by simp, ?_⟩
    · intro x hx
      rcases List.mem_append.1 hx with hx | hx
      · simp at hx; subst hx; exact h4
      · obtain ⟨l, hlm, hxl⟩ := List.mem_flatten.1 hx
        obtain ⟨i, hi, rfl⟩ := List.mem_map.1 hlm
        exact (hfs i (List.mem_range.1 hi)).1 x hxl
    · intro j u hj
      have hlen : ∀ cs ∈ (List.range xs.length).map fun i => (List.range sz').map fun j => vs i j, cs.length = sz' := by
        intro cs hcs
        obtain ⟨i, _, rfl⟩ := List.mem_map.1 hcs
        simp
      have hjl := (List.getElem?_eq_some_iff.1 hj).1
      have hfl : ((List.range xs.length).map fun i => (List.range sz').map fun j => vs i j).flatten.length = xs.length * sz' := by
        rw [List.length_flatten, List.map_map]
        rw [show ((List.length ∘ fun i => (List.range sz').map fun j => vs i j) : Nat → Nat) = fun _ => sz' from funext fun i => by simp]
        rw [List.map_const', List.length_range, List.sum_replicate_nat]
      rw [hfl] at hjl
      have hs0 : 0 < sz' := by
        rcases Nat.eq_zero_or_pos sz' with h | h
        · subst h; simp at hjl
        · exact h
      have hi : j / sz' < xs.length := (Nat.div_lt_iff_lt_mul hs0).2 hjl
      have hm : j % sz' < sz' := Nat.mod_lt _ hs0
      have hje : j = (j / sz') * sz' + j % sz' := by rw [Nat.mul_comm]; exact (Nat.div_add_mod j sz').symm
      rw [hje, flatten_get hlen (i := j / sz') (cs := (List.range sz').map fun k => vs (j / sz') k) (by simp [hi]) hm] at hj
      simp [hm] at hj
      subst hj
      rw [hje]
      have := h6 (j / sz') (j % sz') hi hm
      rw [← hje] at this ⊢
      exact this
    · intro i cs f d hcs hf hd
      have hi : i < xs.length := (List.getElem?_eq_some_iff.1 hd).1
      simp [hi] at hcs hf hd
      subst hcs hf hd
      exact ⟨(hfs i hi).2, by simp⟩

theorem cells_flat {al : List AV} {cs cs' : List Value} (h : CellsImm P w D al cs) (hl : cs.length = al.length) (he : ∀ (j : Nat) (a : AV), al[j]? = some a → ∀ u, Imm P w D a u → cs'[j]? = some u) (hl' : cs'.length = al.length) : cs = cs' := by
  refine List.ext_getElem? fun j => ?_
  by_cases hj : j < al.length
  · obtain ⟨u, hu, hi⟩ := h j _ (List.getElem?_eq_getElem hj)
    rw [hu, he j _ (List.getElem?_eq_getElem hj) u hi]
  · rw [List.getElem?_eq_none (by omega), List.getElem?_eq_none (by omega)]

end Go.Proofs.YtpbniieiinhliaaGreat.V

namespace Go.Proofs.YtpbniieiinhliaaGreat.V
open Go.RowKit

theorem ver_ne {a b : Id} (h : a.ver < b.ver) : (a = b) = False ∧ (b = a) = False := by
  constructor <;> (simp only [eq_iff_iff, iff_false]; rintro rfl; omega)
def CellO : ElO D_SignalCell := fun g cs c ids => ∃ a b f i1 i2 i3, cs = [.int .i64 c.g_At.g_X, .int .i64 c.g_At.g_Y, .int .i64 c.g_Tile, a, b, f] ∧ OL eBool 1 g a c.g_On i1 ∧ OL eBool 1 g b c.g_Bound i2 ∧ OL eBool 1 g f c.g_Fired i3 ∧ ids = i1 ++ (i2 ++ i3)
theorem cellOk : ElOk CellO 6 where
  frame := fun ⟨a, b, f, i1, i2, i3, e, h1, h2, h3, hi⟩ hf => by
    subst hi
    exact ⟨a, b, f, i1, i2, i3, e, h1.frame fun i h => hf i (by simp [h]), h2.frame fun i h => hf i (by simp [h]), h3.frame fun i h => hf i (by simp [h]), rfl⟩
  len := fun ⟨a, b, f, i1, i2, i3, e, _⟩ => by subst e; rfl
  cell := fun ⟨a, b, f, i1, i2, i3, e, h1, h2, h3, _⟩ => by subst e; simp only [List.all_cons, List.all_nil, h1.cell, h2.cell, h3.cell]; rfl
  live := fun ⟨a, b, f, i1, i2, i3, e, h1, h2, h3, hi⟩ i h => by
    subst hi
    rcases List.mem_append.1 h with h | h
    · exact h1.live i h
    · rcases List.mem_append.1 h with h | h
      · exact h2.live i h
      · exact h3.live i h
theorem fz_eBool (g : Rows) (n : Nat) (x : Bool) : fzRow g (n + 1) (eBool x) = some (eBool x) := by simp [eBool, fzRow_cons, fzRow_nil, fz_bool]
theorem cell_fz {g : Rows} {cs : List AV} {c : D_SignalCell} {ids : List Id} (n : Nat) (h : CellO g cs c ids) : fzRow (rw_ g) (n + 2) cs = some (eCell c) := by
  obtain ⟨a, b, f, i1, i2, i3, rfl, h1, h2, h3, _⟩ := h
  simp only [fzRow_cons, fzRow_nil, fz_int, h1.fz (fun x => fz_eBool _ n x), h2.fz (fun x => fz_eBool _ n x), h3.fz (fun x => fz_eBool _ n x), Option.map_some, eCell]

theorem OL.turn {α : Type} {enc : α → List AV} {sz : Nat} {g : Rows} {a : AV} {xs : List α} {ids : List Id} (h : OL enc sz g a xs ids) (hp : 0 < xs.length) : ∃ b, a = .own b 0 xs.length ∧ g b = some ⟨true, sz, xs.map enc⟩ ∧ ids = [b] ∧ ∀ (g' : Rows) (l : List α), g' b = some ⟨true, sz, l.map enc⟩ → l.length = xs.length → OL enc sz g' a l ids := by
  obtain ⟨b, rfl, h2, rfl⟩ := h.pos hp
  exact ⟨b, rfl, h2, rfl, fun g' l h hl => .inl ⟨b, by rw [hl], h, rfl⟩⟩
section
variable {g : Rows} {cs : List AV} {c : D_SignalCell} {ids is : List Id} {rows : List (List AV)} {cells : List D_SignalCell}
theorem cell_bound (h : CellO g cs c ids) (hnd : ids.Nodup) (hp : 0 < c.g_Bound.length) : ∃ a b f, cs = [.int .i64 c.g_At.g_X, .int .i64 c.g_At.g_Y, .int .i64 c.g_Tile, a, .own b 0 c.g_Bound.length, f] ∧ b ∈ ids ∧ g b = some ⟨true, 1, c.g_Bound.map eBool⟩ ∧
    ∀ (g' : Rows) (l : List Bool), g' b = some ⟨true, 1, l.map eBool⟩ → l.length = c.g_Bound.length → (∀ i ∈ ids, i ≠ b → g' i = g i) → CellO g' cs { c with g_Bound := l } ids := by
  obtain ⟨a, x, f, i1, i2, i3, rfl, h1, h2, h3, rfl⟩ := h
  obtain ⟨b, rfl, hb, rfl, ht⟩ := h2.turn hp
  obtain ⟨_, n2, n3⟩ := List.nodup_append.1 hnd
  obtain ⟨_, _, n4⟩ := List.nodup_append.1 n2
  refine ⟨a, b, f, rfl, by simp, hb, fun g' l hg hl hf => ⟨a, _, f, i1, [b], i3, rfl, h1.frame fun i hi => hf i (by simp [hi]) fun e => n3 i hi b (by simp) e, ht g' l hg hl, h3.frame fun i hi => hf i (by simp [hi]) fun e => n4 b (by simp) i hi e.symm, rfl⟩⟩
theorem cell_fired (h : CellO g cs c ids) (hnd : ids.Nodup) (hp : 0 < c.g_Fired.length) : ∃ a b f, cs = [.int .i64 c.g_At.g_X, .int .i64 c.g_At.g_Y, .int .i64 c.g_Tile, a, b, .own f 0 c.g_Fired.length] ∧ f ∈ ids ∧ g f = some ⟨true, 1, c.g_Fired.map eBool⟩ ∧
    ∀ (g' : Rows) (l : List Bool), g' f = some ⟨true, 1, l.map eBool⟩ → l.length = c.g_Fired.length → (∀ i ∈ ids, i ≠ f → g' i = g i) → CellO g' cs { c with g_Fired := l } ids := by
  obtain ⟨a, x, y, i1, i2, i3, rfl, h1, h2, h3, rfl⟩ := h
  obtain ⟨f, rfl, hb, rfl, ht⟩ := h3.turn hp
  obtain ⟨_, n2, n3⟩ := List.nodup_append.1 hnd
  obtain ⟨_, _, n4⟩ := List.nodup_append.1 n2
  refine ⟨a, x, f, rfl, by simp, hb, fun g' l hg hl hf => ⟨a, x, _, i1, i2, [f], rfl, h1.frame fun i hi => hf i (by simp [hi]) fun e => n3 i hi f (by simp) e, h2.frame fun i hi => hf i (by simp [hi]) fun e => n4 i hi f (by simp) e, ht g' l hg hl, rfl⟩⟩
theorem cell_on (h : CellO g cs c ids) (hnd : ids.Nodup) (hp : 0 < c.g_On.length) : ∃ a b f, cs = [.int .i64 c.g_At.g_X, .int .i64 c.g_At.g_Y, .int .i64 c.g_Tile, .own a 0 c.g_On.length, b, f] ∧ a ∈ ids ∧ g a = some ⟨true, 1, c.g_On.map eBool⟩ ∧
    ∀ (g' : Rows) (l : List Bool), g' a = some ⟨true, 1, l.map eBool⟩ → l.length = c.g_On.length → (∀ i ∈ ids, i ≠ a → g' i = g i) → CellO g' cs { c with g_On := l } ids := by
  obtain ⟨x, b, y, i1, i2, i3, rfl, h1, h2, h3, rfl⟩ := h
  obtain ⟨a, rfl, hb, rfl, ht⟩ := h1.turn hp
  obtain ⟨_, n2, n3⟩ := List.nodup_append.1 hnd
  refine ⟨a, b, y, rfl, by simp, hb, fun g' l hg hl hf => ⟨_, b, y, [a], i2, i3, rfl, ht g' l hg hl, h2.frame fun i hi => hf i (by simp [hi]) fun e => n3 a (by simp) i (by simp [hi]) e.symm, h3.frame fun i hi => hf i (by simp [hi]) fun e => n3 a (by simp) i (by simp [hi]) e.symm, rfl⟩⟩

theorem at_bound (h : RowsN CellO g rows cells is) (hnd : is.Nodup) (k : Nat) (hk : k < cells.length) (hp : 0 < cells[k].g_Bound.length) : ∃ a b f, rows[k]? = some [.int .i64 cells[k].g_At.g_X, .int .i64 cells[k].g_At.g_Y, .int .i64 cells[k].g_Tile, a, .own b 0 cells[k].g_Bound.length, f] ∧ b ∈ is ∧ g b = some ⟨true, 1, cells[k].g_Bound.map eBool⟩ ∧
    ∀ (g' : Rows) (l : List Bool), g' b = some ⟨true, 1, l.map eBool⟩ → l.length = cells[k].g_Bound.length → (∀ i ∈ is, i ≠ b → g' i = g i) → RowsN CellO g' rows (cells.set k { cells[k] with g_Bound := l }) is := by
  obtain ⟨cs, ic, h1, h2, hn, h3, h4⟩ := h.put cellOk hnd k hk
  obtain ⟨a, b, f, rfl, hb, hg, ht⟩ := cell_bound h2 hn hp
  exact ⟨a, b, f, h1, h3 _ hb, hg, fun g' l hg' hl hf => h4 g' _ (ht g' l hg' hl fun i hi hne => hf i (h3 i hi) hne) fun i hi hni => hf i hi fun e => hni (e ▸ hb)⟩
theorem at_fired (h : RowsN CellO g rows cells is) (hnd : is.Nodup) (k : Nat) (hk : k < cells.length) (hp : 0 < cells[k].g_Fired.length) : ∃ a b f, rows[k]? = some [.int .i64 cells[k].g_At.g_X, .int .i64 cells[k].g_At.g_Y, .int .i64 cells[k].g_Tile, a, b, .own f 0 cells[k].g_Fired.length] ∧ f ∈ is ∧ g f = some ⟨true, 1, cells[k].g_Fired.map eBool⟩ ∧
    ∀ (g' : Rows) (l : List Bool), g' f = some ⟨true, 1, l.map eBool⟩ → l.length = cells[k].g_Fired.length → (∀ i ∈ is, i ≠ f → g' i = g i) → RowsN CellO g' rows (cells.set k { cells[k] with g_Fired := l }) is := by
  obtain ⟨cs, ic, h1, h2, hn, h3, h4⟩ := h.put cellOk hnd k hk
  obtain ⟨a, b, f, rfl, hb, hg, ht⟩ := cell_fired h2 hn hp
  exact ⟨a, b, f, h1, h3 _ hb, hg, fun g' l hg' hl hf => h4 g' _ (ht g' l hg' hl fun i hi hne => hf i (h3 i hi) hne) fun i hi hni => hf i hi fun e => hni (e ▸ hb)⟩
theorem at_on (h : RowsN CellO g rows cells is) (hnd : is.Nodup) (k : Nat) (hk : k < cells.length) (hp : 0 < cells[k].g_On.length) : ∃ a b f, rows[k]? = some [.int .i64 cells[k].g_At.g_X, .int .i64 cells[k].g_At.g_Y, .int .i64 cells[k].g_Tile, .own a 0 cells[k].g_On.length, b, f] ∧ a ∈ is ∧ g a = some ⟨true, 1, cells[k].g_On.map eBool⟩ ∧
    ∀ (g' : Rows) (l : List Bool), g' a = some ⟨true, 1, l.map eBool⟩ → l.length = cells[k].g_On.length → (∀ i ∈ is, i ≠ a → g' i = g i) → RowsN CellO g' rows (cells.set k { cells[k] with g_On := l }) is := by
  obtain ⟨cs, ic, h1, h2, hn, h3, h4⟩ := h.put cellOk hnd k hk
  obtain ⟨a, b, f, rfl, hb, hg, ht⟩ := cell_on h2 hn hp
  exact ⟨a, b, f, h1, h3 _ hb, hg, fun g' l hg' hl hf => h4 g' _ (ht g' l hg' hl fun i hi hne => hf i (h3 i hi) hne) fun i hi hni => hf i hi fun e => hni (e ▸ hb)⟩
theorem row_xyt (h : RowsN CellO g rows cells is) (k : Nat) (hk : k < cells.length) : ∃ a b f, rows[k]? = some [.int .i64 cells[k].g_At.g_X, .int .i64 cells[k].g_At.g_Y, .int .i64 cells[k].g_Tile, a, b, f] ∧ a.cell = true ∧ b.cell = true ∧ f.cell = true := by
  obtain ⟨cs, ic, h1, ⟨a, b, f, i1, i2, i3, rfl, q1, q2, q3, _⟩, _⟩ := h.at_ k hk
  exact ⟨a, b, f, h1, q1.cell, q2.cell, q3.cell⟩
theorem fz_rowsN (m : Nat) (h : RowsN CellO g rows cells is) {o : Id} (ho : g o = some ⟨true, 6, rows⟩) : V.fz (rw_ g) (m + 3) (.own o 0 cells.length) = some (.sl (cells.map eCell)) := by
  rw [fz_ownE]
  simp only [rw_, ho, Option.map_some, if_true]
  rw [if_pos (by rw [h.len]; omega), List.drop_zero, List.take_of_length_le (by rw [h.len]; exact Nat.le_refl _)]
  have := h.fz (n := m + 2) (e := eCell) fun hc => cell_fz m hc
  rw [this]; rfl
theorem fz_rows (h : RowsN CellO g rows cells is) {o : Id} (ho : g o = some ⟨true, 6, rows⟩) : V.fz (rw_ g) 6 (.own o 0 cells.length) = some (.sl (cells.map eCell)) := fz_rowsN 3 h ho
end

/-- A whole list of them. -/
def CellsO (g : Rows) (a : AV) (cells : List D_SignalCell) (ids : List Id) : Prop := OwnN CellO 6 g a cells ids
theorem CellsO.fz {g : Rows} {a : AV} {cells : List D_SignalCell} {ids : List Id} (h : CellsO g a cells ids) (hp : 0 < cells.length) : fz (rw_ g) 6 a = some (.sl (cells.map eCell)) := OwnN.fz h hp fun hc => cell_fz 3 hc

/-- A list of one's own, a row. -/
def CellsW (g : Rows) (a : AV) (cells : List D_SignalCell) (ids : List Id) : Prop := ∃ o rows is, a = .own o 0 cells.length ∧ g o = some ⟨true, 6, rows⟩ ∧ RowsN CellO g rows cells is ∧ ids = o :: is
theorem CellsW.o {g : Rows} {a : AV} {cells : List D_SignalCell} {ids : List Id} (h : CellsW g a cells ids) : CellsO g a cells ids := .inr h
theorem CellsW.frame {g g' : Rows} {a : AV} {cells : List D_SignalCell} {ids : List Id} (h : CellsW g a cells ids) (hf : ∀ i ∈ ids, g' i = g i) : CellsW g' a cells ids := by
  obtain ⟨o, rows, is, h1, h2, h3, rfl⟩ := h
  exact ⟨o, rows, is, h1, (hf o (by simp)).trans h2, h3.frame cellOk fun i hi => hf i (by simp [hi]), rfl⟩
/-- A new cell, with rows of its own. -/
def NewCellK (c : D_SignalCell) (σ : Store) (r : AV) (σ' : Store) : Prop := ∃ cs ids, r = .agg cs ∧ CellO σ'.get cs c ids ∧ NewIds σ.next σ'.next ids ∧ Kept σ σ'
theorem rep_false (n : Nat) : List.replicate n [AV.bool false] = (List.replicate n false).map eBool := by rw [List.map_replicate]; rfl
end Go.Proofs.YtpbniieiinhliaaGreat.V

namespace Go.Proofs.YtpbniieiinhliaaGreat.V
open Go.RowKit
attribute [local irreducible] wpv wpOps PCx Call
attribute [local go_sem] wantedV vop qop eop vis evO upd envOf K.av boxOf AV.cells AV.cell rowOf rowsOf part ld rowAt setR killR ibin vbin vsh vclear vsbin sbin eq1 eqL xorB vnil vnilS vnilF hiOf loOf vslice vsliceS viaddr vidxS vidxA vlen vnot vneg vconv vconvS vpick vchk vfield vextract vlenS fillV vmk rowsIn putCs vstore vappend seqQ blockQ most AV.undef callW locP locQ List.getD_cons_zero List.getD_cons_succ List.getD_nil List.all_cons List.all_nil Bool.and_true Bool.true_and Bool.and_self Bool.not_true Bool.not_false Option.map_some Option.map_none Option.bind_some Option.bind_none List.length_cons List.length_nil List.take_succ_cons List.take_zero List.take_nil List.drop_succ_cons List.drop_zero List.drop_nil List.head?_cons List.map_cons List.map_nil List.getElem?_cons_zero List.getElem?_cons_succ List.cons_append List.nil_append List.append_nil List.length_map List.set_cons_zero List.set_cons_succ Nat.reduceMul eq_self Int.toNat_natCast Int.natCast_nonneg and_self true_and and_true decide_true decide_false Bool.false_eq_true Nat.zero_add Nat.add_zero List.contains_cons List.contains_nil Bool.or_false Bool.false_or beq_self_eq_true Nat.reduceBEq ne_eq not_true_eq_false not_false_eq_true Id.mk.injEq false_and and_false Nat.reduceLT Int.reduceLE Int.reduceLT Int.reduceToNat Int.reduceNeg Int.reduceAdd Nat.le_refl List.length_append beq_true beq_false Bool.not_eq_eq_eq_not or_false false_or rw_ fzRow_cons fzRow_nil fz_int fz_bool fz_str fz_sl fz_nils fz_agg fz_iptr fz_ptrE fz_fn

variable {P : Program}
/-- Ways that meet: what holds where they meet. -/
theorem w_meet {X : CallP} {Q : Ex → Env → Store → Prop} {N : Env → Store → Prop} {c : VC} {env : Env} {σ : Store} (I : Env → Store → Prop) (h2 : ∀ e s, I e s → N e s) (h1 : ∀ N' : Env → Store → Prop, (∀ e s, I e s → N' e s) → wpv X c (seqQ N' Q) env σ) : wpv X c (seqQ N Q) env σ := h1 N h2
/-- slices.IndexFunc at elements of z cells, as function f. -/
def idxFnC (f z : Nat) (a : Bool) : VFn := let s := f * 1000000
  ⟨19, 2, (.seq (.reg false [q 4 (.mov (.k (.int .i64 0))) s]) (.seq (.seq (.reg false [q 6 (.mov (.t 0)) (s + 1000), q 7 (.len (.t 6)) (s + 1001), q 8 (.mov (.k (.int .i64 0))) (s + 1002)]) (.block 0 (.loop (.seq (.reg false [q 9 (.bin .lss .i64 (.t 8) (.t 7)) (s + 2000)]) (.seq (.cond (.t 9) .skip (.exit 0)) (.seq (.block 1 (.seq (.reg false [q 10 (.mov (.t 8)) (s + 3000), q 5 (.mov (.t 10)) (s + 3001)]) (.seq (.reg false [q 11 (.mov (.t 1)) (s + 4000), q 12 (.mov (.t 0)) (s + 4001), q 13 (.mov (.t 5)) (s + 4002), q 14 (.iaddr z (.t 12) (.t 13)) (s + 4003), q 15 (.load a z (.t 14)) (s + 4004), q 16 (.callv (.t 11) [(.t 15)]) (s + 4005)]) (.cond (.t 16) (.seq (.reg false [q 17 (.mov (.t 5)) (s + 5000), q 4 (.mov (.t 17)) (s + 5001)]) .ret) .skip)))) (.reg false [q 18 (.bin .add .i64 (.t 8) (.k (.int .i64 1))) (s + 6000), q 8 (.mov (.t 18)) (s + 6001)]))))))) (.seq (.reg false [q 4 (.mov (.k (.int .i64 (-1)))) (s + 7000)]) .ret))), [(.tmp 4)]⟩
/-- slices.ContainsFunc as function f; it calls g. -/
def hasFnC (f g : Nat) : VFn := let s := f * 1000000
  ⟨9, 2, (.seq (.reg false [q 4 (.mov (.k (.bool false))) s]) (.seq (.reg false [q 5 (.mov (.t 0)) (s + 1000), q 6 (.mov (.t 1)) (s + 1001), q 7 (.call g [(.t 5), (.t 6)]) (s + 1002), q 8 (.bin .geq .i64 (.t 7) (.k (.int .i64 0))) (s + 1003), q 4 (.mov (.t 8)) (s + 1004)]) .ret)), [(.tmp 4)]⟩

def fIdx {α : Type} (p : α → Bool) (xs : List α) : Int := if xs.findIdx p < xs.length then (xs.findIdx p : Int) else -1
theorem fIdx_any {α : Type} (p : α → Bool) (xs : List α) : decide (0 ≤ fIdx p xs) = xs.any p := by
  unfold fIdx
  by_cases h : xs.findIdx p < xs.length
  · rw [if_pos h]
    have : xs.any p = true := List.any_eq_true.2 (List.findIdx_lt_length.1 h)
    rw [this]; simp
  · rw [if_neg h]
    have : xs.any p = false := by
      rw [Bool.eq_false_iff]
      intro hc
      exact h (List.findIdx_lt_length.2 (List.any_eq_true.1 hc))
    rw [this]; rfl

theorem av_cons (a : AV) (l m : List AV) : a :: l ++ m = a :: (l ++ m) := rfl
theorem av_nil (l : List AV) : [] ++ l = l := rfl
/-- How an element is read: as a whole or, where it is one cell, plain. -/
structure Elt {α : Type} (e : α → List AV) (v : α → AV) (z : Nat) (a : Bool) : Prop where
  len : ∀ x, (e x).length = z
  val : ∀ x, if a = true then v x = .agg (e x) else e x = [v x]
  fz : ∀ x g, fzRow g 6 [v x] = some [v x]

set_option maxRecDepth 100000 in
set_option maxHeartbeats 4000000 in
theorem indexFunc_g {α : Type} {e : α → List AV} {v : α → AV} {z fk : Nat} {a : Bool} (hE : Elt e v z a) (hc : cFn P fk = some (idxFnC fk z a)) (xs : List α) (hlen : xs.length ≤ 1048576) (f : Nat) (caps : List AV) (p : α → Bool)
    (hf : ∀ x ∈ xs, RetS P f (v x :: caps) (.bool (p x))) (hfa : ∀ g, fzRow g 6 caps = some caps) :
    RetS P fk [.sl (xs.map e), .fn f caps] (.int .i64 (fIdx p xs)) := by
  refine RetS.body hc rfl fun hl n0 => ?_
  try simp only [q]
  clear hl
  (try ((repeat (revert hN; revert N; apply Pn.out)); refine wk @Nat.zero_add ?_; (repeat (refine Pn.mk ?_; intro N hN))))
  refine w_loopF (fun n env st => ∃ k : Nat, n = (xs.length) - k ∧ k ≤ (xs.length) ∧ env 8 = .int .i64 (k : Int) ∧ (∀ j : Nat, j < k → ∀ h : j < xs.length, p xs[j] = false)) (xs.length) ⟨0, by omega, by omega, by (try simp only [go_sem, ↓reduceIte, Nat.reduceEqDiff, Nat.reduceAdd, Nat.reduceSub, Nat.reduceLeDiff, reduceCtorEq]); try rfl, fun _ h => absurd h (Nat.not_lt_zero _)⟩ ?_
  rintro n_a env_a st_a ⟨k, rfl, ale, a8, aA0⟩ afr
  have a0 := afr 0 (by kernel_rfl); have a1 := afr 1 (by kernel_rfl); have a7 := afr 7 (by kernel_rfl)
  simp only [go_sem, ↓reduceIte, Nat.reduceEqDiff, Nat.reduceAdd, Nat.reduceSub, Nat.reduceLeDiff, reduceCtorEq] at a0 a1 a7
  clear afr
  by_cases hk : (k : Int) < (xs.length : Int)
  · have nexta : ∀ {e : Env}, (e 8 = .int .i64 (IntKind.i64.wrap ((k : Int) + 1))) → (∀ h : k < xs.length, p xs[k] = false) → ∃ m0, m0 < (xs.length) - k ∧ ∃ k : Nat, m0 = (xs.length) - k ∧ k ≤ (xs.length) ∧ e 8 = .int .i64 (k : Int) ∧ (∀ j : Nat, j < k → ∀ h : j < xs.length, p xs[j] = false) := fun x1 x2 => ⟨_, by omega, k + 1, rfl, by omega, (by rw [x1, wrap_succ2 (by omega)]), (all_succ aA0 x2)⟩
    have hkn : k < xs.length := by omega
    have hg : (xs.map e)[k]? = some (e xs[k]) := by simp [hkn]
    have hpk := hf _ (List.getElem_mem hkn)
    have hz := hE.len xs[k]
    have hv := hE.val xs[k]
    have hz2 : fzRow (rw_ st_a.get) 6 (v xs[k] :: caps) = some (v xs[k] :: caps) := by
      have h1 := hE.fz xs[k] (rw_ st_a.get)
      rw [fzRow_cons, fzRow_nil] at h1
      rw [fzRow_cons, hfa]
      revert h1
      cases V.fz (rw_ st_a.get) 6 (v xs[k]) <;> simp
    have fin : ∀ hN : True, (p xs[k] = true → xs.findIdx p = k) := fun _ hp => by
      rw [List.findIdx_eq hkn]; exact ⟨hp, fun j hj => aA0 j hj (by omega)⟩
    cases hp : p xs[k]
    · have hp0 := hp
      cases a
      · rw [if_neg (by simp)] at hv
        have hz1 : z = 1 := by rw [← hz, hv]; rfl
        subst hz1
        rw [hv] at hg hz
        rw [hp] at hpk
        generalize v xs[k] = c at hpk hz2 hg hz
        (try ((repeat (revert hN; revert N; apply Pn.out)); refine wk (tw @a8 (tw @a0 (tw @a1 (tw @a7 (tw @hk (tw @hg (tw @hz (tw @av_cons @av_nil)))))))) ?_; (repeat (refine Pn.mk ?_; intro N hN))))
        refine .inl ⟨_, RetS.x hpk hz2, ?_⟩
        refine hN _ _ ?_
        clear hN N
        (try ((repeat (revert hN; revert N; apply Pn.out)); refine wk (tw @a8 (tw @a0 (tw @a1 @a7))) ?_; (repeat (refine Pn.mk ?_; intro N hN))))
        exact nexta (sd (tw @a8 (tw @a0 (tw @a1 @a7)))) (fun _ => hp0)
      · rw [if_pos rfl] at hv
        have ht : (e xs[k]).take z = e xs[k] := by rw [← hz, List.take_length]
        rw [hv] at hpk hz2
        rw [hp] at hpk
        generalize e xs[k] = c at hpk hz2 hg hz ht
        (try ((repeat (revert hN; revert N; apply Pn.out)); refine wk (tw @a8 (tw @a0 (tw @a1 (tw @a7 (tw @hk (tw @hg (tw @hz (tw @ht (tw @av_cons (tw @av_nil @Nat.le_refl)))))))))) ?_; (repeat (refine Pn.mk ?_; intro N hN))))
        refine .inl ⟨_, RetS.x hpk hz2, ?_⟩
        refine hN _ _ ?_
        clear hN N
        (try ((repeat (revert hN; revert N; apply Pn.out)); refine wk (tw @a8 (tw @a0 (tw @a1 @a7))) ?_; (repeat (refine Pn.mk ?_; intro N hN))))
        exact nexta (sd (tw @a8 (tw @a0 (tw @a1 @a7)))) (fun _ => hp0)
    · have hi := fin trivial hp
      cases a
      · rw [if_neg (by simp)] at hv
        have hz1 : z = 1 := by rw [← hz, hv]; rfl
        subst hz1
        rw [hv] at hg hz
        rw [hp] at hpk
        generalize v xs[k] = c at hpk hz2 hg hz
        (try ((repeat (revert hN; revert N; apply Pn.out)); refine wk (tw @a8 (tw @a0 (tw @a1 (tw @a7 (tw @hk (tw @hg (tw @hz (tw @av_cons @av_nil)))))))) ?_; (repeat (refine Pn.mk ?_; intro N hN))))
        refine .inl ⟨_, RetS.x hpk hz2, ?_⟩
        refine hN _ _ ?_
        clear hN N
        (try ((repeat (revert hN; revert N; apply Pn.out)); refine wk (tw @a8 (tw @a0 (tw @a1 @a7))) ?_; (repeat (refine Pn.mk ?_; intro N hN))))
        exact ret1Si (b := (k : Int)) (.inl rfl) (sd @Nat.zero_add) (by rw [fIdx, hi, if_pos hkn])
      · rw [if_pos rfl] at hv
        have ht : (e xs[k]).take z = e xs[k] := by rw [← hz, List.take_length]
        rw [hv] at hpk hz2
        rw [hp] at hpk
        generalize e xs[k] = c at hpk hz2 hg hz ht
        (try ((repeat (revert hN; revert N; apply Pn.out)); refine wk (tw @a8 (tw @a0 (tw @a1 (tw @a7 (tw @hk (tw @hg (tw @hz (tw @ht (tw @av_cons (tw @av_nil @Nat.le_refl)))))))))) ?_; (repeat (refine Pn.mk ?_; intro N hN))))
        refine .inl ⟨_, RetS.x hpk hz2, ?_⟩
        refine hN _ _ ?_
        clear hN N
        (try ((repeat (revert hN; revert N; apply Pn.out)); refine wk (tw @a8 (tw @a0 (tw @a1 @a7))) ?_; (repeat (refine Pn.mk ?_; intro N hN))))
        exact ret1Si (b := (k : Int)) (.inl rfl) (sd @Nat.zero_add) (by rw [fIdx, hi, if_pos hkn])
  · (try ((repeat (revert hN; revert N; apply Pn.out)); refine wk (tw @a8 (tw @a0 (tw @a1 (tw @a7 @hk)))) ?_; (repeat (refine Pn.mk ?_; intro N hN))))
    have hi : ¬ xs.findIdx p < xs.length := by
      rw [List.findIdx_lt_length]
      rintro ⟨x, hx, hpx⟩
      obtain ⟨j, hj, rfl⟩ := List.getElem_of_mem hx
      rw [aA0 j (by omega) hj] at hpx; cases hpx
    exact ret1Si (b := -1) (.inl rfl) (sd @Nat.zero_add) (by rw [fIdx, if_neg hi])

set_option maxRecDepth 100000 in
set_option maxHeartbeats 4000000 in
theorem containsFunc_g {α : Type} {e : α → List AV} {v : α → AV} {z fk gk : Nat} {a : Bool} (hE : Elt e v z a) (hc : cFn P fk = some (hasFnC fk gk)) (hc2 : cFn P gk = some (idxFnC gk z a)) (xs : List α) (hlen : xs.length ≤ 1048576) (f : Nat) (caps : List AV) (p : α → Bool) (hcap : caps.all AV.cell = true) (hfz : ∀ g, fzRow g 5 caps = some caps)
    (hf : ∀ x ∈ xs, RetS P f (v x :: caps) (.bool (p x))) (hfa : ∀ g, fzRow g 6 caps = some caps) :
    RetS P fk [.sl (xs.map e), .fn f caps] (.bool (xs.any p)) := by
  refine RetS.body hc rfl fun hl n0 => ?_
  try simp only [q]
  clear hl
  have hi := indexFunc_g hE hc2 xs hlen f caps p hf hfa
  (repeat (first | ((repeat (revert hN; revert N; apply Pn.out)); refine wk (tw @hcap @hfz) ?_; (repeat (refine Pn.mk ?_; intro N hN))) | ((try apply Or.inl); refine ⟨_, RetS.x (hi) (sd (tw @hcap @hfz)), ?_⟩; refine hN _ _ ?_; clear hN N)))
  exact ret1Sb (b := decide (0 ≤ fIdx p xs)) (.inl rfl) (sd @Nat.zero_add) (fIdx_any p xs)

end Go.Proofs.YtpbniieiinhliaaGreat.V

namespace Go.Proofs.YtpbniieiinhliaaGreat.V
open Go.RowKit

def makersU (P : Program) (mk : Bool) : List Oper → Nat → List Nat
  | [], _ => []
  | o :: r, i => match cOp P o.op with
    | some v => if makesB v || mk && v.isCall then i :: makersU P mk r (i + 1) else makersU P mk r (i + 1)
    | none => makersU P mk r (i + 1)
def cOperU (P : Program) (ops : Array Oper) (site0 : Nat) (mk : Bool) (bs : Array Nat) (hidden : List Nat) : List Oper → Nat → Option (List VOper)
  | [], _ => some []
  | o :: r, j => do
    let v ← cOp P o.op
    let g ← cGuard ops o
    pure ({ dst := o.dst, op := v, guard := g, site := site0 + j, hid := (hidden.filter fun i => !(bs.getD j 0).testBit i && (i != j || mk && v.isCall)).map fun i => site0 + i } :: (← cOperU P ops site0 mk bs hidden r (j + 1)))
/-- As cCode, without its checks. -/
def cCodeU (P : Program) (md : List (Nat × Nat)) (fid : Nat) : Code → Option VC
  | .skip => some .skip
  | .region id ops draw => if draw then (cOperU P ops ((fid * 1000 + id) * 1000) (modeOf md id == 1) (befs ops) (makersU P (modeOf md id == 1) ops.toList 0) ops.toList 0).map (VC.reg true) else (cOperU P ops ((fid * 1000 + id) * 1000) false #[] [] ops.toList 0).map (VC.reg false)
  | .seq a b => do pure (.seq (← cCodeU P md fid a) (← cCodeU P md fid b))
  | .cond c x y => do pure (.cond (← cO P c) (← cCodeU P md fid x) (← cCodeU P md fid y))
  | .block id c => (cCodeU P md fid c).map (VC.block id)
  | .loop c => (cCodeU P md fid c).map VC.loop
  | .exit id => some (.exit id)
  | .ret => some .ret
  | _ => none
def cFnU (P : Program) (md : List (Nat × Nat)) (f : Nat) : Option VFn :=
  match P.funcs[f]? with
  | some fn => match fn.body with
    | some c => do
      let b ← cCodeU P md f c
      let r ← fn.results.toList.mapM (cRes P)
      pure { ntmps := fn.ntmps, nargs := fn.params.size + fn.nfree, body := b, res := r }
    | none => none
  | none => none
/-- The first argument finds the form, the second one shows it. -/
theorem cfM {P : Program} (md : List (Nat × Nat)) {f : Nat} {v : VFn} (_ : cFnU P md f = some v := by (conv => lhs; cbv) <;> exact rfl) (h : cFnM P f md = some v := by kernel_rfl) : cFnM P f md = some v := h
theorem cfE {P : Program} {f : Nat} {v : VFn} (_ : cFnU P [] f = some v := by (conv => lhs; cbv) <;> exact rfl) (h : cFn P f = some v := by kernel_rfl) : cFn P f = some v := h

end Go.Proofs.YtpbniieiinhliaaGreat.V

namespace Go.Proofs.YtpbniieiinhliaaGreat.V
open Go.RowKit

def vc86m : VFn := ⟨30, 3, (.seq (.reg false [q 4 (.box (.t 1)) 86000000, q 6 (.new [(.int .i64 0), (.int .i64 0), (.int .i64 0), .nils, .nils, .nils]) 86000001]) (.seq (.reg false [q 8 (.mov (.t 0)) 86001000, q 9 (.chk (.t 8)) 86001001, q 10 (.faddr 1 (.t 9)) 86001002, q 11 (.load false 1 (.t 10)) 86001003, q 12 (.mov (.t 2)) 86001004, q 13 (.iaddr 4 (.t 11) (.t 12)) 86001005, q 7 (.mov (.t 13)) 86001006]) (.seq (.one ⟨(some 15), (.mov (.t 2)), none, 86002001, [86002002, 86002007, 86002008, 86002014, 86002016]⟩ (.one ⟨(some 16), (.bslice 1 0 []), none, 86002002, [86002007, 86002008, 86002014, 86002016]⟩ (.one ⟨(some 17), (.mov (.t 7)), none, 86002003, [86002002, 86002007, 86002008, 86002014, 86002016]⟩ (.one ⟨(some 18), (.chk (.t 17)), none, 86002004, [86002002, 86002007, 86002008, 86002014, 86002016]⟩ (.one ⟨(some 19), (.faddr 2 (.t 18)), none, 86002005, [86002002, 86002007, 86002008, 86002014, 86002016]⟩ (.one ⟨(some 20), (.load false 1 (.t 19)), none, 86002006, [86002002, 86002007, 86002008, 86002014, 86002016]⟩ (.one ⟨(some 23), (.mov (.t 7)), none, 86002009, [86002002, 86002007, 86002008, 86002014, 86002016]⟩ (.one ⟨(some 24), (.chk (.t 23)), none, 86002010, [86002002, 86002007, 86002008, 86002014, 86002016]⟩ (.one ⟨(some 25), (.faddr 3 (.t 24)), none, 86002011, [86002002, 86002007, 86002008, 86002014, 86002016]⟩ (.loc 16 86002002 (.t 20) (.one ⟨(some 21), (.append 1 (.t 16) (.t 20)), none, 86002007, [86002008, 86002014, 86002016]⟩ (.one ⟨(some 14), (.load true 2 (.t 4)), none, 86002000, [86002002, 86002007, 86002008, 86002014, 86002016]⟩ (.one ⟨(some 22), (.mkslice [(.bool false)] (.k (.int .i64 4)) (.k (.int .i64 4))), none, 86002008, [86002002, 86002007, 86002014, 86002016]⟩ (.one ⟨(some 26), (.load false 1 (.t 25)), none, 86002012, [86002002, 86002007, 86002008, 86002014, 86002016]⟩ (.one ⟨(some 27), (.len (.t 26)), none, 86002013, [86002002, 86002007, 86002008, 86002014, 86002016]⟩ (.one ⟨(some 28), (.mkslice [(.bool false)] (.t 27) (.t 27)), none, 86002014, [86002002, 86002007, 86002008, 86002016]⟩ (.one ⟨(some 29), (.build [(.int .i64 0), (.int .i64 0), (.int .i64 0), .nils, .nils, .nils] [(0, (2, (.t 14))), (2, (1, (.t 15))), (3, (1, (.t 21))), (4, (1, (.t 22))), (5, (1, (.t 28)))]), none, 86002015, [86002016]⟩ (.one ⟨none, (.store 6 (.t 6) (.t 29)), none, 86002016, []⟩ (.reg false []))))))))))))))))))) .ret))), [(.cell true 6 6)]⟩
theorem cf86m : cFnM Tryz.prog 86 [(2, 2)] = some vc86m := by kernel_rfl

def vc50m : VFn := ⟨109, 2, (.seq (.reg false [q 2 (.box (.t 0)) 50000000, q 3 (.box (.t 1)) 50000001, q 4 (.new [.nils, .nils, (.int .i64 0), .nils]) 50000002, q 5 (.mov (.k (.int .i64 0))) 50000003]) (.seq (.reg false [q 10 (.load true 4 (.t 2)) 50001000, q 11 (.call 57 [(.t 10)]) 50001001, q 6 (.new [.nils, .nils, (.int .i64 0), .nils]) 50001002, ⟨none, (.store 4 (.t 6) (.t 11)), none, 50001003, []⟩]) (.seq (.reg false [q 12 (.load true 4 (.t 6)) 50002000, q 13 (.faddr 1 (.t 3)) 50002001, q 14 (.load true 2 (.t 13)) 50002002, q 15 (.call 89 [(.t 12), (.t 14)]) 50002003, q 7 (.mov (.t 15)) 50002004]) (.seq (.seq (.reg false [q 16 (.faddr 0 (.t 3)) 50003000, q 17 (.load false 1 (.t 16)) 50003001]) (.block 0 (.seq (.reg false [q 19 (.eqS false .tI (.t 17) (.k (.int .i64 1))) 50004000, q 18 (.mov (.t 19)) 50004001]) (.cond (.t 18) (.seq (.seq (.reg false [q 20 (.faddr 3 (.t 6)) 50005000, q 21 (.load false 1 (.t 20)) 50005001, q 22 (.len (.t 21)) 50005002, q 23 (.bin .geq .i64 (.t 22) (.k (.int .i64 80))) 50005003]) (.cond (.t 23) (.seq (.reg false [q 24 (.build [.nils, .nils, (.int .i64 0), .nils] []) 50006000, ⟨none, (.store 4 (.t 4) (.t 24)), none, 50006001, []⟩, q 5 (.mov (.k (.int .i64 4))) 50006002]) .ret) .skip)) (.seq (.reg false [q 26 (.faddr 3 (.t 6)) 50007000, q 27 (.load false 1 (.t 26)) 50007001, q 28 (.faddr 1 (.t 3)) 50007002, q 29 (.load true 2 (.t 28)) 50007003, q 30 (.call 90 [(.t 27), (.t 29), (.f 91)]) 50007004, q 25 (.mov (.t 30)) 50007005, q 31 (.extract 0 (.t 25)) 50007006, q 32 (.extract 1 (.t 25)) 50007007, q 8 (.mov (.t 31)) 50007008, q 9 (.mov (.t 32)) 50007009]) (.one ⟨(some 33), (.faddr 3 (.t 6)), none, 50008000, [50008010, 50008013]⟩ (.one ⟨(some 35), (.mov (.t 8)), none, 50008002, [50008010, 50008013]⟩ (.one ⟨(some 36), (.faddr 0 (.t 2)), none, 50008003, [50008010, 50008013]⟩ (.one ⟨(some 37), (.load true 2 (.t 36)), none, 50008004, [50008010, 50008013]⟩ (.one ⟨(some 38), (.faddr 1 (.t 3)), none, 50008005, [50008010, 50008013]⟩ (.one ⟨(some 39), (.load true 2 (.t 38)), none, 50008006, [50008010, 50008013]⟩ (.one ⟨(some 40), (.faddr 3 (.t 3)), none, 50008007, [50008010, 50008013]⟩ (.one ⟨(some 41), (.load false 1 (.t 40)), none, 50008008, [50008010, 50008013]⟩ (.both (.one ⟨(some 34), (.load false 1 (.t 33)), none, 50008001, [50008010, 50008013]⟩ (.one ⟨(some 42), (.call 94 [(.t 37), (.t 39), (.t 41)]), none, 50008009, [50008010, 50008013]⟩ (.one ⟨(some 43), (.bslice 6 1 [(.t 42)]), none, 50008010, [50008013]⟩ (.one ⟨(some 44), (.call 93 [(.t 34), (.t 35), (.t 43)]), none, 50008011, [50008013]⟩ (.one ⟨(some 45), (.faddr 3 (.t 6)), none, 50008012, [50008013]⟩ (.one ⟨none, (.store 1 (.t 45) (.t 44)), none, 50008013, []⟩ (.reg false []))))))) (.one ⟨(some 42), (.call 94 [(.t 37), (.t 39), (.t 41)]), none, 50008009, [50008010, 50008013]⟩ (.one ⟨(some 34), (.load false 1 (.t 33)), none, 50008001, [50008010, 50008013]⟩ (.one ⟨(some 43), (.bslice 6 1 [(.t 42)]), none, 50008010, [50008013]⟩ (.one ⟨(some 44), (.call 93 [(.t 34), (.t 35), (.t 43)]), none, 50008011, [50008013]⟩ (.one ⟨(some 45), (.faddr 3 (.t 6)), none, 50008012, [50008013]⟩ (.one ⟨none, (.store 1 (.t 45) (.t 44)), none, 50008013, []⟩ (.reg false [])))))))))))))))))) (.seq (.reg false [q 47 (.eqS false .tI (.t 17) (.k (.int .i64 2))) 50009000, q 46 (.mov (.t 47)) 50009001]) (.cond (.t 46) (.seq (.reg true [⟨(some 48), (.faddr 3 (.t 6)), none, 50010000, [50010009]⟩, ⟨(some 49), (.load false 1 (.t 48)), none, 50010001, [50010009]⟩, ⟨(some 50), (.mov (.t 7)), none, 50010002, [50010009]⟩, ⟨(some 51), (.iaddr 6 (.t 49) (.t 50)), none, 50010003, [50010009]⟩, ⟨(some 52), (.faddr 4 (.t 51)), none, 50010004, [50010009]⟩, ⟨(some 53), (.load false 1 (.t 52)), none, 50010005, [50010009]⟩, ⟨(some 54), (.faddr 3 (.t 3)), none, 50010006, [50010009]⟩, ⟨(some 55), (.load false 1 (.t 54)), none, 50010007, [50010009]⟩, ⟨(some 56), (.iaddr 1 (.t 53) (.t 55)), none, 50010008, [50010009]⟩, ⟨none, (.store 1 (.t 56) (.k (.bool true))), none, 50010009, []⟩]) (.reg true [⟨(some 57), (.faddr 3 (.t 6)), none, 50011000, [50011016]⟩, ⟨(some 58), (.load false 1 (.t 57)), none, 50011001, [50011016]⟩, ⟨(some 59), (.load true 4 (.t 6)), none, 50011002, [50011016]⟩, ⟨(some 60), (.faddr 1 (.t 3)), none, 50011003, [50011016]⟩, ⟨(some 61), (.load true 2 (.t 60)), none, 50011004, [50011016]⟩, ⟨(some 62), (.faddr 3 (.t 3)), none, 50011005, [50011016]⟩, ⟨(some 63), (.load false 1 (.t 62)), none, 50011006, [50011016]⟩, ⟨(some 64), (.call 74 [(.t 61), (.t 63)]), none, 50011007, [50011016]⟩, ⟨(some 65), (.call 89 [(.t 59), (.t 64)]), none, 50011008, [50011016]⟩, ⟨(some 66), (.iaddr 6 (.t 58) (.t 65)), none, 50011009, [50011016]⟩, ⟨(some 67), (.faddr 4 (.t 66)), none, 50011010, [50011016]⟩, ⟨(some 68), (.load false 1 (.t 67)), none, 50011011, [50011016]⟩, ⟨(some 69), (.faddr 3 (.t 3)), none, 50011012, [50011016]⟩, ⟨(some 70), (.load false 1 (.t 69)), none, 50011013, [50011016]⟩, ⟨(some 71), (.call 95 [(.t 70)]), none, 50011014, [50011016]⟩, ⟨(some 72), (.iaddr 1 (.t 68) (.t 71)), none, 50011015, [50011016]⟩, ⟨none, (.store 1 (.t 72) (.k (.bool true))), none, 50011016, []⟩])) (.seq (.reg false [q 74 (.eqS false .tI (.t 17) (.k (.int .i64 3))) 50012000, q 73 (.mov (.t 74)) 50012001]) (.cond (.t 73) (.seq (.reg true [⟨(some 75), (.faddr 3 (.t 6)), none, 50013000, [50013009]⟩, ⟨(some 76), (.load false 1 (.t 75)), none, 50013001, [50013009]⟩, ⟨(some 77), (.mov (.t 7)), none, 50013002, [50013009]⟩, ⟨(some 78), (.iaddr 6 (.t 76) (.t 77)), none, 50013003, [50013009]⟩, ⟨(some 79), (.faddr 5 (.t 78)), none, 50013004, [50013009]⟩, ⟨(some 80), (.load false 1 (.t 79)), none, 50013005, [50013009]⟩, ⟨(some 81), (.faddr 3 (.t 3)), none, 50013006, [50013009]⟩, ⟨(some 82), (.load false 1 (.t 81)), none, 50013007, [50013009]⟩, ⟨(some 83), (.iaddr 1 (.t 80) (.t 82)), none, 50013008, [50013009]⟩, ⟨none, (.store 1 (.t 83) (.k (.bool true))), none, 50013009, []⟩]) (.reg true [⟨(some 84), (.faddr 3 (.t 6)), none, 50014000, [50014024]⟩, ⟨(some 85), (.load false 1 (.t 84)), none, 50014001, [50014024]⟩, ⟨(some 86), (.mov (.t 7)), none, 50014002, [50014024]⟩, ⟨(some 87), (.iaddr 6 (.t 85) (.t 86)), none, 50014003, [50014024]⟩, ⟨(some 88), (.faddr 3 (.t 87)), none, 50014004, [50014024]⟩, ⟨(some 89), (.load false 1 (.t 88)), none, 50014005, [50014024]⟩, ⟨(some 90), (.faddr 0 (.t 2)), none, 50014006, [50014024]⟩, ⟨(some 91), (.faddr 1 (.t 90)), none, 50014007, [50014024]⟩, ⟨(some 92), (.load false 1 (.t 91)), none, 50014008, [50014024]⟩, ⟨(some 93), (.faddr 3 (.t 6)), none, 50014009, [50014024]⟩, ⟨(some 94), (.load false 1 (.t 93)), none, 50014010, [50014024]⟩, ⟨(some 95), (.mov (.t 7)), none, 50014011, [50014024]⟩, ⟨(some 96), (.iaddr 6 (.t 94) (.t 95)), none, 50014012, [50014024]⟩, ⟨(some 97), (.faddr 2 (.t 96)), none, 50014013, [50014024]⟩, ⟨(some 98), (.load false 1 (.t 97)), none, 50014014, [50014024]⟩, ⟨(some 99), (.iaddr 4 (.t 92) (.t 98)), none, 50014015, [50014024]⟩, ⟨(some 100), (.faddr 3 (.t 99)), none, 50014016, [50014024]⟩, ⟨(some 101), (.load false 1 (.t 100)), none, 50014017, [50014024]⟩, ⟨(some 102), (.faddr 3 (.t 3)), none, 50014018, [50014024]⟩, ⟨(some 103), (.load false 1 (.t 102)), none, 50014019, [50014024]⟩, ⟨(some 104), (.iaddr 2 (.t 101) (.t 103)), none, 50014020, [50014024]⟩, ⟨(some 105), (.faddr 1 (.t 104)), none, 50014021, [50014024]⟩, ⟨(some 106), (.load false 1 (.t 105)), none, 50014022, [50014024]⟩, ⟨(some 107), (.iaddr 1 (.t 89) (.t 106)), none, 50014023, [50014024]⟩, ⟨none, (.store 1 (.t 107) (.k (.bool true))), none, 50014024, []⟩])) .skip)))))))) (.seq (.reg false [q 108 (.load true 4 (.t 6)) 50015000, ⟨none, (.store 4 (.t 4) (.t 108)), none, 50015001, []⟩, q 5 (.mov (.k (.int .i64 0))) 50015002]) .ret))))), [(.cell true 4 4), (.tmp 5)]⟩
theorem cf50m : cFnM Tryz.prog 50 [(8, 2)] = some vc50m := by kernel_rfl

def vc25m : VFn := ⟨74, 5, (.seq (.reg false [q 5 (.box (.t 0)) 25000000, q 10 (.mov (.k .nils)) 25000001, q 11 (.mov (.k (.int .i64 0))) 25000002, q 12 (.mov (.k (.int .i64 0))) 25000003]) (.seq (.seq (.reg false [q 20 (.load true 2 (.t 5)) 25001000, q 21 (.mov (.t 1)) 25001001, q 22 (.mov (.t 2)) 25001002, q 23 (.call 36 [(.t 20), (.t 21), (.t 22)]) 25001003, q 13 (.mov (.t 23)) 25001004]) (.seq (.reg false [q 24 (.mov (.t 13)) 25002000, q 25 (.eqS true .tI (.t 24) (.k (.int .i64 0))) 25002001]) (.cond (.t 25) (.seq (.reg false [q 26 (.mov (.t 13)) 25003000, q 10 (.mov (.k .nils)) 25003001, q 11 (.mov (.k (.int .i64 0))) 25003002, q 12 (.mov (.t 26)) 25003003]) .ret) .skip))) (.seq (.seq (.reg false [q 27 (.mov (.t 3)) 25004000, q 28 (.call 55 [(.t 27)]) 25004001, q 29 (.not (.t 28)) 25004002, q 30 (.mov (.t 29)) 25004003, ⟨(some 31), (.mov (.t 4)), (some (30, false)), 25004004, []⟩, ⟨(some 32), (.call 56 [(.t 31), (.k (.int .i64 0)), (.k (.int .i64 1000))]), (some (30, false)), 25004005, []⟩, ⟨(some 33), (.not (.t 32)), (some (30, false)), 25004006, []⟩, q 34 (.pick (.t 30) (.k (.bool true)) (.t 33)) 25004007]) (.cond (.t 34) (.seq (.reg false [q 10 (.mov (.k .nils)) 25005000, q 11 (.mov (.k (.int .i64 0))) 25005001, q 12 (.mov (.k (.int .i64 2))) 25005002]) .ret) .skip)) (.seq (.reg false [q 35 (.load true 2 (.t 5)) 25006000, q 36 (.mov (.t 1)) 25006001, q 37 (.mov (.t 2)) 25006002, q 38 (.build [.nils, .nils, (.int .i64 0), .nils] [(0, (2, (.t 35))), (2, (1, (.t 36))), (3, (1, (.t 37)))]) 25006003, q 39 (.call 57 [(.t 38)]) 25006004, q 14 (.new [.nils, .nils, (.int .i64 0), .nils]) 25006005, ⟨none, (.store 4 (.t 14) (.t 39)), none, 25006006, []⟩]) (.seq (.reg false [q 40 (.mov (.t 3)) 25007000, q 41 (.call 58 [(.t 40)]) 25007001, q 15 (.mov (.t 41)) 25007002]) (.seq (.reg false [q 16 (.mov (.k (.int .i64 0))) 25008000]) (.block 0 (.loop (.seq (.block 1 (.seq (.reg false [q 44 (.load true 4 (.t 14)) 25010000, q 45 (.call 37 [(.t 44)]) 25010001, q 17 (.mov (.t 45)) 25010002]) (.seq (.seq (.reg false [q 46 (.mov (.t 16)) 25011000, q 47 (.mov (.t 4)) 25011001, q 48 (.eqS false .tI (.t 46) (.t 47)) 25011002, q 49 (.mov (.t 48)) 25011003, ⟨(some 50), (.mov (.t 17)), (some (49, false)), 25011004, []⟩, ⟨(some 51), (.len (.t 50)), (some (49, false)), 25011005, []⟩, ⟨(some 52), (.eqS false .tI (.t 51) (.k (.int .i64 0))), (some (49, false)), 25011006, []⟩, q 53 (.pick (.t 49) (.k (.bool true)) (.t 52)) 25011007]) (.cond (.t 53) (.seq (.reg false [q 54 (.faddr 3 (.t 14)) 25012000, q 55 (.load false 1 (.t 54)) 25012001, q 56 (.mov (.t 16)) 25012002, q 10 (.mov (.t 55)) 25012003, q 11 (.mov (.t 56)) 25012004, q 12 (.mov (.k (.int .i64 0))) 25012005]) .ret) .skip)) (.seq (.one ⟨(some 59), (.mov (.t 17)), none, 25013001, [25013013, 25013014]⟩ (.one ⟨(some 60), (.mov (.t 15)), none, 25013002, [25013013, 25013014]⟩ (.one ⟨(some 61), (.mov (.t 17)), none, 25013003, [25013013, 25013014]⟩ (.one ⟨(some 62), (.len (.t 61)), none, 25013004, [25013013, 25013014]⟩ (.one ⟨(some 63), (.mov (.t 16)), none, 25013005, [25013013, 25013014]⟩ (.both (.one ⟨(some 58), (.load true 4 (.t 14)), none, 25013000, [25013013, 25013014]⟩ (.both (.one ⟨(some 64), (.callv (.t 60) [(.t 62), (.t 63)]), none, 25013006, [25013013, 25013014]⟩ (.one ⟨(some 65), (.iaddr 4 (.t 59) (.t 64)), none, 25013007, [25013013, 25013014]⟩ (.one ⟨(some 66), (.load true 4 (.t 65)), none, 25013008, [25013013, 25013014]⟩ (.both (.one ⟨(some 67), (.call 50 [(.t 58), (.t 66)]), none, 25013009, [25013013, 25013014]⟩ (.one ⟨(some 57), (.mov (.t 67)), none, 25013010, [25013013, 25013014]⟩ (.one ⟨(some 68), (.extract 0 (.t 57)), none, 25013011, [25013013, 25013014]⟩ (.one ⟨(some 69), (.extract 1 (.t 57)), none, 25013012, [25013013, 25013014]⟩ (.one ⟨(some 18), (.new [.nils, .nils, (.int .i64 0), .nils]), none, 25013013, [25013014]⟩ (.one ⟨none, (.store 4 (.t 18) (.t 68)), none, 25013014, []⟩ (.one (q 19 (.mov (.t 69)) 25013015) (.reg false [])))))))) (.one ⟨(some 18), (.new [.nils, .nils, (.int .i64 0), .nils]), none, 25013013, [25013014]⟩ (.one ⟨(some 67), (.call 50 [(.t 58), (.t 66)]), none, 25013009, [25013013, 25013014]⟩ (.one ⟨(some 57), (.mov (.t 67)), none, 25013010, [25013013, 25013014]⟩ (.one ⟨(some 68), (.extract 0 (.t 57)), none, 25013011, [25013013, 25013014]⟩ (.one ⟨(some 69), (.extract 1 (.t 57)), none, 25013012, [25013013, 25013014]⟩ (.one ⟨none, (.store 4 (.t 18) (.t 68)), none, 25013014, []⟩ (.one (q 19 (.mov (.t 69)) 25013015) (.reg false [])))))))))))) (.one ⟨(some 18), (.new [.nils, .nils, (.int .i64 0), .nils]), none, 25013013, [25013014]⟩ (.one ⟨(some 64), (.callv (.t 60) [(.t 62), (.t 63)]), none, 25013006, [25013013, 25013014]⟩ (.one ⟨(some 65), (.iaddr 4 (.t 59) (.t 64)), none, 25013007, [25013013, 25013014]⟩ (.one ⟨(some 66), (.load true 4 (.t 65)), none, 25013008, [25013013, 25013014]⟩ (.one ⟨(some 67), (.call 50 [(.t 58), (.t 66)]), none, 25013009, [25013013, 25013014]⟩ (.one ⟨(some 57), (.mov (.t 67)), none, 25013010, [25013013, 25013014]⟩ (.one ⟨(some 68), (.extract 0 (.t 57)), none, 25013011, [25013013, 25013014]⟩ (.one ⟨(some 69), (.extract 1 (.t 57)), none, 25013012, [25013013, 25013014]⟩ (.one ⟨none, (.store 4 (.t 18) (.t 68)), none, 25013014, []⟩ (.one (q 19 (.mov (.t 69)) 25013015) (.reg false []))))))))))))) (.both (.one ⟨(some 64), (.callv (.t 60) [(.t 62), (.t 63)]), none, 25013006, [25013013, 25013014]⟩ (.one ⟨(some 58), (.load true 4 (.t 14)), none, 25013000, [25013013, 25013014]⟩ (.one ⟨(some 65), (.iaddr 4 (.t 59) (.t 64)), none, 25013007, [25013013, 25013014]⟩ (.one ⟨(some 66), (.load true 4 (.t 65)), none, 25013008, [25013013, 25013014]⟩ (.both (.one ⟨(some 67), (.call 50 [(.t 58), (.t 66)]), none, 25013009, [25013013, 25013014]⟩ (.one ⟨(some 57), (.mov (.t 67)), none, 25013010, [25013013, 25013014]⟩ (.one ⟨(some 68), (.extract 0 (.t 57)), none, 25013011, [25013013, 25013014]⟩ (.one ⟨(some 69), (.extract 1 (.t 57)), none, 25013012, [25013013, 25013014]⟩ (.one ⟨(some 18), (.new [.nils, .nils, (.int .i64 0), .nils]), none, 25013013, [25013014]⟩ (.one ⟨none, (.store 4 (.t 18) (.t 68)), none, 25013014, []⟩ (.one (q 19 (.mov (.t 69)) 25013015) (.reg false [])))))))) (.one ⟨(some 18), (.new [.nils, .nils, (.int .i64 0), .nils]), none, 25013013, [25013014]⟩ (.one ⟨(some 67), (.call 50 [(.t 58), (.t 66)]), none, 25013009, [25013013, 25013014]⟩ (.one ⟨(some 57), (.mov (.t 67)), none, 25013010, [25013013, 25013014]⟩ (.one ⟨(some 68), (.extract 0 (.t 57)), none, 25013011, [25013013, 25013014]⟩ (.one ⟨(some 69), (.extract 1 (.t 57)), none, 25013012, [25013013, 25013014]⟩ (.one ⟨none, (.store 4 (.t 18) (.t 68)), none, 25013014, []⟩ (.one (q 19 (.mov (.t 69)) 25013015) (.reg false []))))))))))))) (.one ⟨(some 18), (.new [.nils, .nils, (.int .i64 0), .nils]), none, 25013013, [25013014]⟩ (.both (.one ⟨(some 58), (.load true 4 (.t 14)), none, 25013000, [25013013, 25013014]⟩ (.one ⟨(some 64), (.callv (.t 60) [(.t 62), (.t 63)]), none, 25013006, [25013013, 25013014]⟩ (.one ⟨(some 65), (.iaddr 4 (.t 59) (.t 64)), none, 25013007, [25013013, 25013014]⟩ (.one ⟨(some 66), (.load true 4 (.t 65)), none, 25013008, [25013013, 25013014]⟩ (.one ⟨(some 67), (.call 50 [(.t 58), (.t 66)]), none, 25013009, [25013013, 25013014]⟩ (.one ⟨(some 57), (.mov (.t 67)), none, 25013010, [25013013, 25013014]⟩ (.one ⟨(some 68), (.extract 0 (.t 57)), none, 25013011, [25013013, 25013014]⟩ (.one ⟨(some 69), (.extract 1 (.t 57)), none, 25013012, [25013013, 25013014]⟩ (.one ⟨none, (.store 4 (.t 18) (.t 68)), none, 25013014, []⟩ (.one (q 19 (.mov (.t 69)) 25013015) (.reg false []))))))))))) (.one ⟨(some 64), (.callv (.t 60) [(.t 62), (.t 63)]), none, 25013006, [25013013, 25013014]⟩ (.one ⟨(some 58), (.load true 4 (.t 14)), none, 25013000, [25013013, 25013014]⟩ (.one ⟨(some 65), (.iaddr 4 (.t 59) (.t 64)), none, 25013007, [25013013, 25013014]⟩ (.one ⟨(some 66), (.load true 4 (.t 65)), none, 25013008, [25013013, 25013014]⟩ (.one ⟨(some 67), (.call 50 [(.t 58), (.t 66)]), none, 25013009, [25013013, 25013014]⟩ (.one ⟨(some 57), (.mov (.t 67)), none, 25013010, [25013013, 25013014]⟩ (.one ⟨(some 68), (.extract 0 (.t 57)), none, 25013011, [25013013, 25013014]⟩ (.one ⟨(some 69), (.extract 1 (.t 57)), none, 25013012, [25013013, 25013014]⟩ (.one ⟨none, (.store 4 (.t 18) (.t 68)), none, 25013014, []⟩ (.one (q 19 (.mov (.t 69)) 25013015) (.reg false [])))))))))))))))))))) (.seq (.seq (.reg false [q 70 (.mov (.t 19)) 25014000, q 71 (.eqS true .tI (.t 70) (.k (.int .i64 0))) 25014001]) (.cond (.t 71) (.seq (.reg false [q 72 (.mov (.t 19)) 25015000, q 10 (.mov (.k .nils)) 25015001, q 11 (.mov (.k (.int .i64 0))) 25015002, q 12 (.mov (.t 72)) 25015003]) .ret) .skip)) (.reg false [q 73 (.load true 4 (.t 18)) 25016000, ⟨none, (.store 4 (.t 14) (.t 73)), none, 25016001, []⟩])))))) (.reg false [q 42 (.mov (.t 16)) 25009000, q 43 (.bin .add .i64 (.t 42) (.k (.int .i64 1))) 25009001, q 16 (.mov (.t 43)) 25009002])))))))))), [(.tmp 10), (.tmp 11), (.tmp 12)]⟩
theorem cf25m : cFnM Tryz.prog 25 [(13, 2)] = some vc25m := by kernel_rfl

end Go.Proofs.YtpbniieiinhliaaGreat.V
