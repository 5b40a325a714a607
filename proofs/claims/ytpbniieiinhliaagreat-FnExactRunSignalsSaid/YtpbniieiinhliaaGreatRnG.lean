/- The small functions of points, directions and bounds. -/
import Derived.Test.YtpbniieiinhliaaGreatRnD
import Derived.Test.YtpbniieiinhliaaGreatChecked
import Derived.Maps.OwnOps
import Derived.Maps.OwnSet
import Derived.Shelf.Abstract
import Derived.OwnWalk
set_option linter.unusedVariables false
set_option linter.unusedSimpArgs false
namespace Go.Proofs.YtpbniieiinhliaaGreat
open Go.RowKit

def inB (n lo hi : Int) : Bool := decide (lo ≤ n) && decide (n ≤ hi)
theorem inB_true {n lo hi : Int} (h : inB n lo hi = true) : lo ≤ n ∧ n ≤ hi := by simpa [inB] using h
theorem inB_of {n lo hi : Int} (h : lo ≤ n ∧ n ≤ hi) : inB n lo hi = true := by simpa [inB] using h
def ptB (p : D_Point) : Bool := inB p.g_X (-60) 60 && inB p.g_Y (-60) 60
def ltB (a b : D_Point) : Bool := decide (a.g_Y < b.g_Y) || (decide (a.g_Y = b.g_Y) && decide (a.g_X < b.g_X))
def oppI (d : Int) : Int := if inB d 0 3 then (d + 2) % 4 else -1
def stepP (p : D_Point) (d : Int) : D_Point :=
  if d = 0 then ⟨p.g_X, p.g_Y + 1⟩ else if d = 1 then ⟨p.g_X + 1, p.g_Y⟩ else if d = 2 then ⟨p.g_X, p.g_Y - 1⟩ else if d = 3 then ⟨p.g_X - 1, p.g_Y⟩ else p
def cmp1 (a b : Int) : Int := if a < b then -1 else if b < a then 1 else 0
def orI (a b : Int) : Int := if a = 0 then b else a
def cmpP (a b : D_Point) : Int := orI (cmp1 a.g_Y b.g_Y) (cmp1 a.g_X b.g_X)

set_option maxRecDepth 100000 in
set_option maxHeartbeats 400000 in
theorem l00In_any (w : World) (n lo hi : Int) : Calls Tryz.prog 53 #[.int .i64 n, .int .i64 lo, .int .i64 hi] w fun e w' => e = .returned (.bool (inB n lo hi)) ∧ w = w' := by
  go_enter Tryz.func53, Tryz.ntmps53
  go_wp2_with fail
  all_goals
    go_ret
    exact ⟨ret_b (by unfold inB; simp; try omega), rfl⟩

set_option maxRecDepth 100000 in
set_option maxHeartbeats 400000 in
theorem within_any (w : World) (n lo hi : Int) : Calls Tryz.prog 56 #[.int .i64 n, .int .i64 lo, .int .i64 hi] w fun e w' => e = .returned (.bool (inB n lo hi)) ∧ w = w' := by
  go_enter Tryz.func56, Tryz.ntmps56
  go_wp2_with fail
  all_goals
    go_ret
    exact ⟨ret_b (by unfold inB; simp; try omega), rfl⟩

set_option maxRecDepth 100000 in
set_option maxHeartbeats 400000 in
theorem l01Dir_any (w : World) (d : Int) : Calls Tryz.prog 120 #[.int .i64 d] w fun e w' => e = .returned (.bool (inB d 0 3)) ∧ w = w' := by
  go_enter Tryz.func120, Tryz.ntmps120
  go_wp2_with fail
  refine (l00In_any _ _ _ _).mono ?_
  rintro e w' ⟨rfl, rfl⟩
  go_wp2_with fail
  go_ret
  exact ⟨rfl, rfl⟩

set_option maxRecDepth 100000 in
set_option maxHeartbeats 400000 in
theorem isDir_any (w : World) (d : Int) : Calls Tryz.prog 153 #[.int .i64 d] w fun e w' => e = .returned (.bool (inB d 0 3)) ∧ w = w' := by
  go_enter Tryz.func153, Tryz.ntmps153
  go_wp2_with fail
  refine (within_any _ _ _ _).mono ?_
  rintro e w' ⟨rfl, rfl⟩
  go_wp2_with fail
  go_ret
  exact ⟨rfl, rfl⟩

set_option maxRecDepth 100000 in
set_option maxHeartbeats 400000 in
theorem l07Temp_any (w : World) (d : Int) : Calls Tryz.prog 63 #[.int .i64 d] w fun e w' => e = .returned (.bool (inB d 1 16)) ∧ w = w' := by
  go_enter Tryz.func63, Tryz.ntmps63
  go_wp2_with fail
  refine (l00In_any _ _ _ _).mono ?_
  rintro e w' ⟨rfl, rfl⟩
  go_wp2_with fail
  go_ret
  exact ⟨rfl, rfl⟩

set_option maxRecDepth 100000 in
set_option maxHeartbeats 400000 in
theorem isTemp_any (w : World) (d : Int) : Calls Tryz.prog 72 #[.int .i64 d] w fun e w' => e = .returned (.bool (inB d 1 16)) ∧ w = w' := by
  go_enter Tryz.func72, Tryz.ntmps72
  go_wp2_with fail
  refine (within_any _ _ _ _).mono ?_
  rintro e w' ⟨rfl, rfl⟩
  go_wp2_with fail
  go_ret
  exact ⟨rfl, rfl⟩

set_option maxRecDepth 100000 in
set_option maxHeartbeats 400000 in
theorem Opposite_any (w : World) (d : Int) : Calls Tryz.prog 87 #[.int .i64 d] w fun e w' => e = .returned (.int .i64 (oppI d)) ∧ w = w' := by
  go_enter Tryz.func87, Tryz.ntmps87
  go_wp2_with fail
  refine (l01Dir_any _ _).mono ?_
  rintro e w' ⟨rfl, rfl⟩
  cases hb : inB d 0 3
  · go_wp2_with fail
    go_ret
    exact ⟨ret_i (by simp [oppI, hb]), rfl⟩
  · have h1 := (inB_true hb).1
    have h2 := (inB_true hb).2
    go_wp2_with fail
    go_ret
    exact ⟨ret_i (by simp [oppI, hb]), rfl⟩

set_option maxRecDepth 100000 in
set_option maxHeartbeats 400000 in
theorem opposite_any (w : World) (d : Int) (h0 : 0 ≤ d) (h1 : d ≤ 3) : Calls Tryz.prog 95 #[.int .i64 d] w fun e w' => e = .returned (.int .i64 ((d + 2) % 4)) ∧ w = w' := by
  go_enter Tryz.func95, Tryz.ntmps95
  go_wp2_with fail
  go_ret
  exact ⟨rfl, rfl⟩

set_option maxRecDepth 100000 in
set_option maxHeartbeats 400000 in
theorem l01Point_any (w : World) (p : D_Point) : Calls Tryz.prog 65 #[.agg #[.int .i64 p.g_X, .int .i64 p.g_Y]] w fun e w' => e = .returned (.bool (ptB p)) ∧ Below w.heap.size w w' := by
  go_enter Tryz.func65, Tryz.ntmps65
  have hb : Below w.heap.size w (w.alloc (.cells #[.int .i64 p.g_X, .int .i64 p.g_Y] 52)) := (Below.refl _ _).alloc (Nat.le_refl _) _
  go_wp2_with fail
  refine (l00In_any _ _ _ _).mono ?_
  rintro e w' ⟨rfl, rfl⟩
  cases h1 : inB p.g_X (-60) 60
  · go_wp2_with fail
    go_ret
    exact ⟨ret_b (by simp [ptB, h1]), hb⟩
  · go_wp2_with fail
    refine (l00In_any _ _ _ _).mono ?_
    rintro e w' ⟨rfl, rfl⟩
    go_wp2_with fail
    go_ret
    exact ⟨ret_b (by simp [ptB, h1]), hb⟩

set_option maxRecDepth 100000 in
set_option maxHeartbeats 400000 in
theorem validPoint_any (w : World) (p : D_Point) : Calls Tryz.prog 117 #[.agg #[.int .i64 p.g_X, .int .i64 p.g_Y]] w fun e w' => e = .returned (.bool (ptB p)) ∧ Below w.heap.size w w' := by
  go_enter Tryz.func117, Tryz.ntmps117
  have hb : Below w.heap.size w (w.alloc (.cells #[.int .i64 p.g_X, .int .i64 p.g_Y] 52)) := (Below.refl _ _).alloc (Nat.le_refl _) _
  go_wp2_with fail
  refine (within_any _ _ _ _).mono ?_
  rintro e w' ⟨rfl, rfl⟩
  cases h1 : inB p.g_X (-60) 60
  · go_wp2_with fail
    go_ret
    exact ⟨ret_b (by simp [ptB, h1]), hb⟩
  · go_wp2_with fail
    refine (within_any _ _ _ _).mono ?_
    rintro e w' ⟨rfl, rfl⟩
    go_wp2_with fail
    go_ret
    exact ⟨ret_b (by simp [ptB, h1]), hb⟩

set_option maxRecDepth 100000 in
set_option maxHeartbeats 400000 in
theorem sLessPoint_any (w : World) (a b : D_Point) : Calls Tryz.prog 85 #[.agg #[.int .i64 a.g_X, .int .i64 a.g_Y], .agg #[.int .i64 b.g_X, .int .i64 b.g_Y]] w fun e w' => e = .returned (.bool (ltB a b)) ∧ Below w.heap.size w w' := by
  go_enter Tryz.func85, Tryz.ntmps85
  go_wp2_with fail
  all_goals
    go_ret
    refine ⟨ret_b ?_, ((Below.refl _ _).alloc (Nat.le_refl _) _).alloc (by simp) _⟩
    simp only [ltB]
    simp [*]
    try omega

def iB (n : Int) : Prop := -4611686018427387904 ≤ n ∧ n ≤ 4611686018427387904
set_option maxRecDepth 100000 in
set_option maxHeartbeats 400000 in
theorem l01Step_any (w : World) (p : D_Point) (d : Int) (hx : iB p.g_X) (hy : iB p.g_Y) : Calls Tryz.prog 64 #[.agg #[.int .i64 p.g_X, .int .i64 p.g_Y], .int .i64 d] w fun e w' => e = .returned (.agg #[.int .i64 (stepP p d).g_X, .int .i64 (stepP p d).g_Y]) ∧ Below w.heap.size w w' := by
  obtain ⟨x1, x2⟩ := hx
  obtain ⟨y1, y2⟩ := hy
  go_enter Tryz.func64, Tryz.ntmps64
  go_wp2_with fail
  all_goals
    refine bodyPost_ret (v := .agg #[.int .i64 (stepP p d).g_X, .int .i64 (stepP p d).g_Y]) ?_ rfl ⟨rfl, ((Below.refl _ _).alloc (Nat.le_refl _) _).alloc (by simp) _⟩
    simp_all [results, Tryz.results64, go_sem, stepP]

set_option maxRecDepth 100000 in
set_option maxHeartbeats 400000 in
theorem compare_any (w : World) (a b : Int) : Calls Tryz.prog 123 #[.int .i64 a, .int .i64 b] w fun e w' => e = .returned (.int .i64 (cmp1 a b)) ∧ w = w' := by
  go_enter Tryz.func123, Tryz.ntmps123
  go_wp2_with go_in
  all_goals
    go_ret
    exact ⟨ret_i (by unfold cmp1; split <;> (try split) <;> omega), rfl⟩

set_option maxRecDepth 100000 in
set_option maxHeartbeats 400000 in
theorem plus_any (w : World) (a b : D_Point) (hx : iB (a.g_X + b.g_X)) (hy : iB (a.g_Y + b.g_Y)) : Calls Tryz.prog 113 #[.agg #[.int .i64 a.g_X, .int .i64 a.g_Y], .agg #[.int .i64 b.g_X, .int .i64 b.g_Y]] w fun e w' => e = .returned (.agg #[.int .i64 (a.g_X + b.g_X), .int .i64 (a.g_Y + b.g_Y)]) ∧ Below w.heap.size w w' := by
  obtain ⟨x1, x2⟩ := hx
  obtain ⟨y1, y2⟩ := hy
  go_enter Tryz.func113, Tryz.ntmps113
  go_wp2_with fail
  refine bodyPost_ret (v := .agg #[.int .i64 (a.g_X + b.g_X), .int .i64 (a.g_Y + b.g_Y)]) (by simp [results, Tryz.results113, go_sem]) rfl ⟨rfl, (((Below.refl _ _).alloc (Nat.le_refl _) _).alloc (by simp) _).alloc (by simp; omega) _⟩

set_option maxRecDepth 100000 in
set_option maxHeartbeats 400000 in
theorem or2_any (w : World) (a b : Int) (g : Nat) (ha : w.cell? ⟨g, 0, none⟩ = some (.int .i64 a)) (hb : w.cell? ⟨g, 1, none⟩ = some (.int .i64 b)) : Calls Tryz.prog 122 #[.slice (some ⟨g, 0, none⟩) 2 2] w fun e w' => e = .returned (.int .i64 (orI a b)) ∧ w = w' := by
  go_enter Tryz.func122, Tryz.ntmps122
  go_wp2_with fail
  go_loop [8] (fun i => ∃ k : Nat, k ≤ 2 ∧ i = .int .i64 k ∧ Hid ((1 ≤ k → a = 0) ∧ (2 ≤ k → b = 0))) (fun i => 2 - (intOf i).toNat)
  case atStart => exact ⟨0, by omega, rfl, Lib.hid ⟨fun h => by omega, fun h => by omega⟩⟩
  case round =>
    obtain ⟨k, hk, rfl, hz⟩ := hrel
    have h3 : k = 0 ∨ k = 1 ∨ k = 2 := by omega
    rcases h3 with rfl | rfl | rfl
    · go_wp2_with fail
      · rename_i h
        go_ret
        exact ⟨ret_i (by unfold orI; simp_all), rfl⟩
      · rename_i h
        go_round
        case rel => exact ⟨1, by omega, rfl, Lib.hid ⟨fun _ => by simpa using h, fun h => by omega⟩⟩
        case measure => simp [intOf]
    · have h0 := hz.out.1 (by omega)
      replace h0 := Lib.hid h0
      go_wp2_with fail
      · go_ret
        exact ⟨ret_i (by unfold orI; rw [if_pos h0.out]), rfl⟩
      · rename_i h
        go_round
        case rel => exact ⟨2, by omega, rfl, Lib.hid ⟨fun _ => h0.out, fun _ => by simpa using h⟩⟩
        case measure => simp [intOf]
    · have h0 := Lib.hid (hz.out.1 (by omega))
      have h1 := Lib.hid (hz.out.2 (by omega))
      go_wp2_with fail
      go_ret
      exact ⟨ret_i (by unfold orI; rw [if_pos h0.out, h1.out]), rfl⟩

set_option maxRecDepth 100000 in
set_option maxHeartbeats 400000 in
theorem comparePoints_any (w : World) (a b : D_Point) : Calls Tryz.prog 92 #[.agg #[.int .i64 a.g_X, .int .i64 a.g_Y], .agg #[.int .i64 b.g_X, .int .i64 b.g_Y]] w fun e w' => e = .returned (.int .i64 (cmpP a b)) ∧ Below w.heap.size w w' := by
  go_enter Tryz.func92, Tryz.ntmps92
  go_wp2_with fail
  go_region_held3 (fun w' => w'.cell? ⟨w.heap.size, 0, none⟩ = some (.int .i64 a.g_X) ∧ w'.cell? ⟨w.heap.size, 1, none⟩ = some (.int .i64 a.g_Y) ∧
      w'.cell? ⟨w.heap.size + 1, 0, none⟩ = some (.int .i64 b.g_X) ∧ w'.cell? ⟨w.heap.size + 1, 1, none⟩ = some (.int .i64 b.g_Y))
    (first | go_keep)
    (first | (go_at_call 123; refine (compare_any _ _ _).mono ?_; rintro e w' ⟨rfl, rfl⟩) | (go_at_call 122; refine (or2_any _ (cmp1 a.g_Y b.g_Y) (cmp1 a.g_X b.g_X) _ (by simp [go_sem]) (by simp [go_sem])).mono ?_; rintro e w' ⟨rfl, rfl⟩))
  go_wp2_with fail
  go_ret
  exact ⟨rfl, (by repeat (first | (with_reducible exact Below.refl _ _) | (refine Below.alloc ?_ (by simp; try omega) _) | (refine Below.drew ?_) | (refine below_dN ?_ _) | (refine Below.setCell ?_ (by simp; try omega) _)))⟩

theorem cmpP_lt (a b : D_Point) : decide (cmpP a b < 0) = ltB a b := by
  unfold cmpP orI cmp1 ltB
  rw [Bool.eq_iff_iff]; simp
  split <;> (try split) <;> (try split) <;> (try split) <;> omega

set_option maxHeartbeats 400000 in
theorem iLessPoint_any (w : World) (a b : D_Point) : Calls Tryz.prog 108 #[.agg #[.int .i64 a.g_X, .int .i64 a.g_Y], .agg #[.int .i64 b.g_X, .int .i64 b.g_Y]] w fun e w' => e = .returned (.bool (ltB a b)) ∧ Below w.heap.size w w' := by
  have y0 : Below w.heap.size w ((w.alloc (.cells #[.int .i64 a.g_X, .int .i64 a.g_Y] 52)).alloc (.cells #[.int .i64 b.g_X, .int .i64 b.g_Y] 52)) := (by repeat (first | (with_reducible exact Below.refl _ _) | (refine Below.alloc ?_ (by simp; try omega) _) | (refine Below.drew ?_) | (refine below_dN ?_ _) | (refine Below.setCell ?_ (by simp; try omega) _)))
  go_enter Tryz.func108, Tryz.ntmps108
  go_wp2_with fail
  refine (comparePoints_any _ a b).mono ?_
  rintro e w1 ⟨rfl, z⟩
  go_wp2_with fail
  go_ret
  exact ⟨ret_b (cmpP_lt a b), y0.trans (z.mono y0.size)⟩

theorem dir4 {d : Int} (h : inB d 0 3 = true) : d = 0 ∨ d = 1 ∨ d = 2 ∨ d = 3 := by have := inB_true h; omega

set_option maxRecDepth 100000 in
set_option maxHeartbeats 400000 in
theorem step_any (w : World) (p : D_Point) (d : Int) (hd : inB d 0 3 = true) (hx : ptB p = true) : Calls Tryz.prog 74 #[.agg #[.int .i64 p.g_X, .int .i64 p.g_Y], .int .i64 d] w fun e w' => e = .returned (.agg #[.int .i64 (stepP p d).g_X, .int .i64 (stepP p d).g_Y]) ∧ Below w.heap.size w w' := by
  obtain ⟨hx1, hy1⟩ : inB p.g_X (-60) 60 = true ∧ inB p.g_Y (-60) 60 = true := by simpa [ptB] using hx
  obtain ⟨x1, x2⟩ := inB_true hx1
  obtain ⟨y1, y2⟩ := inB_true hy1
  clear hx1 hy1 hx
  rcases dir4 hd with rfl | rfl | rfl | rfl
  · have i0 : ∀ w, (Instr.index 159 (.agg #[.int .i64 0, .int .i64 1, .int .i64 1, .int .i64 0, .int .i64 0, .int .i64 (-1), .int .i64 (-1), .int .i64 0]) (.int .i64 0)).run Tryz.prog w = .ok (.agg #[.int .i64 (0), .int .i64 (1)]) w := fun _ => by kernel_rfl
    go_enter Tryz.func74, Tryz.ntmps74
    go_wp2_with fail
    refine (plus_any _ p ⟨0, 1⟩ ⟨by dsimp only; omega, by dsimp only; omega⟩ ⟨by dsimp only; omega, by dsimp only; omega⟩).mono ?_
    rintro e w1 ⟨rfl, z⟩
    have H1 := fun j => z.cell (p := ⟨w.heap.size + 1, j, none⟩) (by simp; try omega)
    have F1 := fun j => z.frozen (p := ⟨w.heap.size + 1, j, none⟩) (by simp; try omega)
    have zb := z.mono (B' := w.heap.size) (by simp; try omega)
    go_wp2_with fail
    refine bodyPost_ret (v := .agg #[.int .i64 (stepP p 0).g_X, .int .i64 (stepP p 0).g_Y]) (by simp [results, Tryz.results74, go_sem, stepP, H1]; try omega) rfl ⟨rfl, ?_⟩
    refine (Below.setCell (Below.setCell (Below.trans ?_ zb) (by simp) _) (by simp) _)
    exact (by repeat (first | (with_reducible exact Below.refl _ _) | (refine Below.alloc ?_ (by simp; try omega) _) | (refine Below.drew ?_) | (refine below_dN ?_ _) | (refine Below.setCell ?_ (by simp; try omega) _)))
  
  · have i0 : ∀ w, (Instr.index 159 (.agg #[.int .i64 0, .int .i64 1, .int .i64 1, .int .i64 0, .int .i64 0, .int .i64 (-1), .int .i64 (-1), .int .i64 0]) (.int .i64 1)).run Tryz.prog w = .ok (.agg #[.int .i64 (1), .int .i64 (0)]) w := fun _ => by kernel_rfl
    go_enter Tryz.func74, Tryz.ntmps74
    go_wp2_with fail
    refine (plus_any _ p ⟨1, 0⟩ ⟨by dsimp only; omega, by dsimp only; omega⟩ ⟨by dsimp only; omega, by dsimp only; omega⟩).mono ?_
    rintro e w1 ⟨rfl, z⟩
    have H1 := fun j => z.cell (p := ⟨w.heap.size + 1, j, none⟩) (by simp; try omega)
    have F1 := fun j => z.frozen (p := ⟨w.heap.size + 1, j, none⟩) (by simp; try omega)
    have zb := z.mono (B' := w.heap.size) (by simp; try omega)
    go_wp2_with fail
    refine bodyPost_ret (v := .agg #[.int .i64 (stepP p 1).g_X, .int .i64 (stepP p 1).g_Y]) (by simp [results, Tryz.results74, go_sem, stepP, H1]; try omega) rfl ⟨rfl, ?_⟩
    refine (Below.setCell (Below.setCell (Below.trans ?_ zb) (by simp) _) (by simp) _)
    exact (by repeat (first | (with_reducible exact Below.refl _ _) | (refine Below.alloc ?_ (by simp; try omega) _) | (refine Below.drew ?_) | (refine below_dN ?_ _) | (refine Below.setCell ?_ (by simp; try omega) _)))
  
  · have i0 : ∀ w, (Instr.index 159 (.agg #[.int .i64 0, .int .i64 1, .int .i64 1, .int .i64 0, .int .i64 0, .int .i64 (-1), .int .i64 (-1), .int .i64 0]) (.int .i64 2)).run Tryz.prog w = .ok (.agg #[.int .i64 (0), .int .i64 (-1)]) w := fun _ => by kernel_rfl
    go_enter Tryz.func74, Tryz.ntmps74
    go_wp2_with fail
    refine (plus_any _ p ⟨0, -1⟩ ⟨by dsimp only; omega, by dsimp only; omega⟩ ⟨by dsimp only; omega, by dsimp only; omega⟩).mono ?_
    rintro e w1 ⟨rfl, z⟩
    have H1 := fun j => z.cell (p := ⟨w.heap.size + 1, j, none⟩) (by simp; try omega)
    have F1 := fun j => z.frozen (p := ⟨w.heap.size + 1, j, none⟩) (by simp; try omega)
    have zb := z.mono (B' := w.heap.size) (by simp; try omega)
    go_wp2_with fail
    refine bodyPost_ret (v := .agg #[.int .i64 (stepP p 2).g_X, .int .i64 (stepP p 2).g_Y]) (by simp [results, Tryz.results74, go_sem, stepP, H1]; try omega) rfl ⟨rfl, ?_⟩
    refine (Below.setCell (Below.setCell (Below.trans ?_ zb) (by simp) _) (by simp) _)
    exact (by repeat (first | (with_reducible exact Below.refl _ _) | (refine Below.alloc ?_ (by simp; try omega) _) | (refine Below.drew ?_) | (refine below_dN ?_ _) | (refine Below.setCell ?_ (by simp; try omega) _)))
  
  · have i0 : ∀ w, (Instr.index 159 (.agg #[.int .i64 0, .int .i64 1, .int .i64 1, .int .i64 0, .int .i64 0, .int .i64 (-1), .int .i64 (-1), .int .i64 0]) (.int .i64 3)).run Tryz.prog w = .ok (.agg #[.int .i64 (-1), .int .i64 (0)]) w := fun _ => by kernel_rfl
    go_enter Tryz.func74, Tryz.ntmps74
    go_wp2_with fail
    refine (plus_any _ p ⟨-1, 0⟩ ⟨by dsimp only; omega, by dsimp only; omega⟩ ⟨by dsimp only; omega, by dsimp only; omega⟩).mono ?_
    rintro e w1 ⟨rfl, z⟩
    have H1 := fun j => z.cell (p := ⟨w.heap.size + 1, j, none⟩) (by simp; try omega)
    have F1 := fun j => z.frozen (p := ⟨w.heap.size + 1, j, none⟩) (by simp; try omega)
    have zb := z.mono (B' := w.heap.size) (by simp; try omega)
    go_wp2_with fail
    refine bodyPost_ret (v := .agg #[.int .i64 (stepP p 3).g_X, .int .i64 (stepP p 3).g_Y]) (by simp [results, Tryz.results74, go_sem, stepP, H1]; try omega) rfl ⟨rfl, ?_⟩
    refine (Below.setCell (Below.setCell (Below.trans ?_ zb) (by simp) _) (by simp) _)
    exact (by repeat (first | (with_reducible exact Below.refl _ _) | (refine Below.alloc ?_ (by simp; try omega) _) | (refine Below.drew ?_) | (refine below_dN ?_ _) | (refine Below.setCell ?_ (by simp; try omega) _)))

set_option maxHeartbeats 400000 in
theorem isIndex_any (w : World) (i : Int) (n : Nat) (hn : n ≤ 9223372036854775807) : Calls Tryz.prog 135 #[.int .i64 i, .int .i64 n] w fun e w' => e = .returned (.bool (inB i 0 (n - 1))) ∧ w = w' := by
  go_enter Tryz.func135, Tryz.ntmps135
  go_wp2_with fail
  refine (within_any _ _ _ _).mono ?_
  rintro e w' ⟨rfl, rfl⟩
  go_wp2_with fail
  go_ret
  exact ⟨rfl, rfl⟩

end Go.Proofs.YtpbniieiinhliaaGreat

namespace Go.Proofs.YtpbniieiinhliaaGreat
open Go.RowKit

def letN (n : Int) : Bool := (decide (97 ≤ n) && decide (n ≤ 122)) || (decide (65 ≤ n) && decide (n ≤ 90))
def digI (n : Int) : Bool := decide (48 ≤ n) && decide (n ≤ 57)
def chI (i : Nat) (n : Int) : Prop := letN n = true ∨ (0 < i ∧ (digI n = true ∨ n = 95))
def NameOk (s : ByteArray) : Prop := (1 ≤ s.size ∧ s.size ≤ 12) ∧ ∀ i (h : i < s.size), chI i s[i].toNat
open Classical in
noncomputable def nameB (s : ByteArray) : Bool := decide (NameOk s)
theorem nameB_true {s : ByteArray} (h : NameOk s) : true = nameB s := by simp [nameB, h]
theorem nameB_false {s : ByteArray} (h : ¬ NameOk s) : false = nameB s := by simp [nameB, h]
theorem nameB_true' {s : ByteArray} {b : Bool} (hb : b = true) (h : NameOk s) : b = nameB s := by simp [nameB, h, hb]
theorem nameB_false' {s : ByteArray} {b : Bool} (hb : b = false) (h : ¬ NameOk s) : b = nameB s := by simp [nameB, h, hb]
theorem nameB_iff {s : ByteArray} : nameB s = true ↔ NameOk s := by simp [nameB]

set_option maxRecDepth 100000 in
set_option maxHeartbeats 400000 in
theorem letter_any (w : World) (n : Int) : Calls Tryz.prog 165 #[.int .u8 n] w fun e w' => e = .returned (.bool (letN n)) ∧ w = w' := by
  go_enter Tryz.func165, Tryz.ntmps165
  go_wp2_with fail
  all_goals
    go_ret
    exact ⟨ret_b (by unfold letN; simp [*]; try omega), rfl⟩

set_option maxRecDepth 100000 in
set_option maxHeartbeats 400000 in
theorem digit_any (w : World) (n : Int) : Calls Tryz.prog 166 #[.int .u8 n] w fun e w' => e = .returned (.bool (digI n)) ∧ w = w' := by
  go_enter Tryz.func166, Tryz.ntmps166
  go_wp2_with fail
  all_goals
    go_ret
    exact ⟨ret_b (by unfold digI; simp [*]; try omega), rfl⟩

set_option maxRecDepth 100000 in
set_option maxHeartbeats 1000000 in
theorem sIsName_any (w : World) (s : ByteArray) (hs : s.size ≤ 9223372036854775807) : Calls Tryz.prog 143 #[.string s] w fun e w' => e = .returned (.bool (nameB s)) ∧ Below w.heap.size w w' := by
  by_cases h1 : 1 ≤ s.size
  case neg =>
    go_enter Tryz.func143, Tryz.ntmps143
    go_wp2_with fail
    go_ret
    exact ⟨ret_b (nameB_false fun h => h1 h.1.1), Below.refl _ _⟩
  by_cases h2 : s.size ≤ 12
  case neg =>
    go_enter Tryz.func143, Tryz.ntmps143
    go_wp2_with fail
    go_ret
    exact ⟨ret_b (nameB_false fun h => h2 h.1.2), Below.refl _ _⟩
  go_enter Tryz.func143, Tryz.ntmps143
  go_wp2_with fail
  refine (letter_any _ _).mono ?_
  rintro e w' ⟨rfl, rfl⟩
  cases h3 : letN s[0].toNat
  · go_wp2_with fail
    go_ret
    exact ⟨ret_b (nameB_false fun h => by have := h.2 0 (by omega); simp only [chI] at this; rw [h3] at this; simp at this), Below.refl _ _⟩
  · replace h3 := Lib.hid h3
    go_wp2_with fail
    go_loop [3] (fun i => ∃ k : Nat, 1 ≤ k ∧ k ≤ s.size ∧ i = .int .i64 k ∧ Hid (∀ j (h : j < s.size), j < k → chI j s[j].toNat)) (fun i => s.size - (intOf i).toNat)
    case atStart => exact ⟨1, by omega, by omega, rfl, Lib.hid fun j h hj => by
      obtain rfl : j = 0 := by omega
      exact .inl h3.out⟩
    case round =>
      obtain ⟨k, hk1, hk, rfl, hall⟩ := hrel
      by_cases hlt : k < s.size
      · go_wp2_with fail
        refine (letter_any _ _).mono ?_
        rintro e w' ⟨rfl, rfl⟩
        have hno : chI k s[k].toNat ∨ ¬ chI k s[k].toNat := Classical.em _
        cases hl : letN s[k].toNat
        · go_wp2_with fail
          refine (digit_any _ _).mono ?_
          rintro e w' ⟨rfl, rfl⟩
          cases hd : digI s[k].toNat
          · by_cases h95 : (s[k].toNat : Int) = 95
            · have h95' : ((s[k].toNat : Int) != 95) = false := by simp; omega
              replace h95 := Lib.hid h95
              replace hl := Lib.hid hl
              replace hd := Lib.hid hd
              go_wp2_with fail
              go_round
              case rel => exact ⟨k + 1, by omega, by omega, by go_num, Lib.hid fun j h hj => by
                by_cases hjk : j = k
                · subst hjk; exact .inr ⟨by omega, .inr h95.out⟩
                · exact hall.out j h (by omega)⟩
              case measure => simp [intOf]; omega
            · have h95' : ((s[k].toNat : Int) != 95) = true := by simp; omega
              replace h95 := Lib.hid h95
              replace hl := Lib.hid hl
              replace hd := Lib.hid hd
              go_wp2_with fail
              go_ret
              exact ⟨ret_b (nameB_false fun h => by
                have := h.2 k hlt; simp only [chI, hl.out, hd.out] at this; exact h95.out (by simp at this; exact this.2)), Below.refl _ _⟩
          · replace hl := Lib.hid hl
            replace hd := Lib.hid hd
            go_wp2_with fail
            go_round
            case rel => exact ⟨k + 1, by omega, by omega, by go_num, Lib.hid fun j h hj => by
              by_cases hjk : j = k
              · subst hjk; exact .inr ⟨by omega, .inl hd.out⟩
              · exact hall.out j h (by omega)⟩
            case measure => simp [intOf]; omega
        · replace hl := Lib.hid hl
          go_wp2_with fail
          go_round
          case rel => exact ⟨k + 1, by omega, by omega, by go_num, Lib.hid fun j h hj => by
            by_cases hjk : j = k
            · subst hjk; exact .inl hl.out
            · exact hall.out j h (by omega)⟩
          case measure => simp [intOf]; omega
      · go_wp2_with fail
        go_ret
        exact ⟨ret_b (nameB_true ⟨⟨h1, h2⟩, fun i h => hall.out i h (by omega)⟩), Below.refl _ _⟩

set_option maxRecDepth 100000 in
set_option maxHeartbeats 1000000 in
theorem iIsName_any (w : World) (s : ByteArray) (hs : s.size ≤ 9223372036854775807) : Calls Tryz.prog 146 #[.string s] w fun e w' => e = .returned (.bool (nameB s)) ∧ w = w' := by
  go_enter Tryz.func146, Tryz.ntmps146
  go_wp2_with fail
  go_loop [8] (fun i => ∃ k : Nat, k ≤ s.size ∧ i = .int .i64 k ∧ Hid (∀ j (h : j < s.size), j < k → chI j s[j].toNat)) (fun i => s.size - (intOf i).toNat)
  case atStart => exact ⟨0, by omega, rfl, Lib.hid fun j h hj => by omega⟩
  case round =>
    obtain ⟨k, hk, rfl, hall⟩ := hrel
    by_cases hlt : k < s.size
    · have hc : (s[k].toNat : Int) < 48 ∨ (48 ≤ (s[k].toNat : Int) ∧ (s[k].toNat : Int) ≤ 57) ∨ (58 ≤ (s[k].toNat : Int) ∧ (s[k].toNat : Int) ≤ 64) ∨ (65 ≤ (s[k].toNat : Int) ∧ (s[k].toNat : Int) ≤ 90) ∨ (91 ≤ (s[k].toNat : Int) ∧ (s[k].toNat : Int) ≤ 94) ∨ (95 ≤ (s[k].toNat : Int) ∧ (s[k].toNat : Int) ≤ 95) ∨ (96 ≤ (s[k].toNat : Int) ∧ (s[k].toNat : Int) ≤ 96) ∨ (97 ≤ (s[k].toNat : Int) ∧ (s[k].toNat : Int) ≤ 122) ∨ 123 ≤ (s[k].toNat : Int) := by omega
      by_cases hk0 : k = 0
      · subst hk0
        rcases hc with h | ⟨h, h'⟩ | ⟨h, h'⟩ | ⟨h, h'⟩ | ⟨h, h'⟩ | ⟨h, h'⟩ | ⟨h, h'⟩ | ⟨h, h'⟩ | h
        · have h95 : ((s[0].toNat : Int) != 95) = true := by simp; try omega
          go_wp2_with fail
          all_goals first
            | (go_ret; exact ⟨ret_b (nameB_false fun hh => by have := hh.2 0 hlt; simp [chI, letN, digI] at this; omega), rfl⟩)
            | (exfalso; simp_all; done)
            | (exfalso; simp_all; omega)
        · have h95 : ((s[0].toNat : Int) != 95) = true := by simp; try omega
          go_wp2_with fail
          all_goals first
            | (go_ret; exact ⟨ret_b (nameB_false fun hh => by have := hh.2 0 hlt; simp [chI, letN, digI] at this; omega), rfl⟩)
            | (exfalso; simp_all; done)
            | (exfalso; simp_all; omega)
        · have h95 : ((s[0].toNat : Int) != 95) = true := by simp; try omega
          go_wp2_with fail
          all_goals first
            | (go_ret; exact ⟨ret_b (nameB_false fun hh => by have := hh.2 0 hlt; simp [chI, letN, digI] at this; omega), rfl⟩)
            | (exfalso; simp_all; done)
            | (exfalso; simp_all; omega)
        · have h95 : ((s[0].toNat : Int) != 95) = true := by simp; try omega
          go_wp2_with fail
          go_round
          case rel => exact ⟨0 + 1, by omega, by go_num, Lib.hid fun j hj hjk => by
            by_cases hjj : j = 0
            · subst hjj; simp [chI, letN, digI]; omega
            · exact hall.out j hj (by omega)⟩
          case measure => simp [intOf]; try omega
        · have h95 : ((s[0].toNat : Int) != 95) = true := by simp; try omega
          go_wp2_with fail
          all_goals first
            | (go_ret; exact ⟨ret_b (nameB_false fun hh => by have := hh.2 0 hlt; simp [chI, letN, digI] at this; omega), rfl⟩)
            | (exfalso; simp_all; done)
            | (exfalso; simp_all; omega)
        · have h95 : ((s[0].toNat : Int) != 95) = false := by simp; try omega
          go_wp2_with fail
          all_goals first
            | (go_ret; exact ⟨ret_b (nameB_false fun hh => by have := hh.2 0 hlt; simp [chI, letN, digI] at this; omega), rfl⟩)
            | (exfalso; simp_all; done)
            | (exfalso; simp_all; omega)
        · have h95 : ((s[0].toNat : Int) != 95) = true := by simp; try omega
          go_wp2_with fail
          all_goals first
            | (go_ret; exact ⟨ret_b (nameB_false fun hh => by have := hh.2 0 hlt; simp [chI, letN, digI] at this; omega), rfl⟩)
            | (exfalso; simp_all; done)
            | (exfalso; simp_all; omega)
        · have h95 : ((s[0].toNat : Int) != 95) = true := by simp; try omega
          go_wp2_with fail
          go_round
          case rel => exact ⟨0 + 1, by omega, by go_num, Lib.hid fun j hj hjk => by
            by_cases hjj : j = 0
            · subst hjj; simp [chI, letN, digI]; omega
            · exact hall.out j hj (by omega)⟩
          case measure => simp [intOf]; try omega
        · have h95 : ((s[0].toNat : Int) != 95) = true := by simp; try omega
          go_wp2_with fail
          all_goals first
            | (go_ret; exact ⟨ret_b (nameB_false fun hh => by have := hh.2 0 hlt; simp [chI, letN, digI] at this; omega), rfl⟩)
            | (exfalso; simp_all; done)
            | (exfalso; simp_all; omega)
      · have hz : ((k : Int) == 0) = false := by simpa using hk0
        have hk1 : 1 ≤ k := by omega
        clear hk0
        rcases hc with h | ⟨h, h'⟩ | ⟨h, h'⟩ | ⟨h, h'⟩ | ⟨h, h'⟩ | ⟨h, h'⟩ | ⟨h, h'⟩ | ⟨h, h'⟩ | h
        · have h95 : ((s[k].toNat : Int) != 95) = true := by simp; try omega
          go_wp2_with fail
          all_goals first
            | (go_ret; exact ⟨ret_b (nameB_false fun hh => by have := hh.2 k hlt; simp [chI, letN, digI] at this; omega), rfl⟩)
            | (exfalso; simp_all; done)
            | (exfalso; simp_all; omega)
        · have h95 : ((s[k].toNat : Int) != 95) = true := by simp; try omega
          go_wp2_with fail
          go_round
          case rel => exact ⟨k + 1, by omega, by go_num, Lib.hid fun j hj hjk => by
            by_cases hjj : j = k
            · subst hjj; simp [chI, letN, digI]; omega
            · exact hall.out j hj (by omega)⟩
          case measure => simp [intOf]; try omega
        · have h95 : ((s[k].toNat : Int) != 95) = true := by simp; try omega
          go_wp2_with fail
          all_goals first
            | (go_ret; exact ⟨ret_b (nameB_false fun hh => by have := hh.2 k hlt; simp [chI, letN, digI] at this; omega), rfl⟩)
            | (exfalso; simp_all; done)
            | (exfalso; simp_all; omega)
        · have h95 : ((s[k].toNat : Int) != 95) = true := by simp; try omega
          go_wp2_with fail
          go_round
          case rel => exact ⟨k + 1, by omega, by go_num, Lib.hid fun j hj hjk => by
            by_cases hjj : j = k
            · subst hjj; simp [chI, letN, digI]; omega
            · exact hall.out j hj (by omega)⟩
          case measure => simp [intOf]; try omega
        · have h95 : ((s[k].toNat : Int) != 95) = true := by simp; try omega
          go_wp2_with fail
          all_goals first
            | (go_ret; exact ⟨ret_b (nameB_false fun hh => by have := hh.2 k hlt; simp [chI, letN, digI] at this; omega), rfl⟩)
            | (exfalso; simp_all; done)
            | (exfalso; simp_all; omega)
        · have h95 : ((s[k].toNat : Int) != 95) = false := by simp; try omega
          go_wp2_with fail
          go_round
          case rel => exact ⟨k + 1, by omega, by go_num, Lib.hid fun j hj hjk => by
            by_cases hjj : j = k
            · subst hjj; simp [chI, letN, digI]; omega
            · exact hall.out j hj (by omega)⟩
          case measure => simp [intOf]; try omega
        · have h95 : ((s[k].toNat : Int) != 95) = true := by simp; try omega
          go_wp2_with fail
          all_goals first
            | (go_ret; exact ⟨ret_b (nameB_false fun hh => by have := hh.2 k hlt; simp [chI, letN, digI] at this; omega), rfl⟩)
            | (exfalso; simp_all; done)
            | (exfalso; simp_all; omega)
        · have h95 : ((s[k].toNat : Int) != 95) = true := by simp; try omega
          go_wp2_with fail
          go_round
          case rel => exact ⟨k + 1, by omega, by go_num, Lib.hid fun j hj hjk => by
            by_cases hjj : j = k
            · subst hjj; simp [chI, letN, digI]; omega
            · exact hall.out j hj (by omega)⟩
          case measure => simp [intOf]; try omega
        · have h95 : ((s[k].toNat : Int) != 95) = true := by simp; try omega
          go_wp2_with fail
          all_goals first
            | (go_ret; exact ⟨ret_b (nameB_false fun hh => by have := hh.2 k hlt; simp [chI, letN, digI] at this; omega), rfl⟩)
            | (exfalso; simp_all; done)
            | (exfalso; simp_all; omega)
    · by_cases h1 : 1 ≤ s.size
      · by_cases h2 : s.size ≤ 12
        · go_wp2_with fail
          go_ret
          exact ⟨ret_b (nameB_true' (by simp <;> omega) ⟨⟨h1, h2⟩, fun i h => hall.out i h (by omega)⟩), rfl⟩
        · go_wp2_with fail
          go_ret
          exact ⟨ret_b (nameB_false' (by simp <;> omega) fun h => h2 h.1.2), rfl⟩
      · go_wp2_with fail
        go_ret
        exact ⟨ret_b (nameB_false' (by simp <;> omega) fun h => h1 h.1.1), rfl⟩

end Go.Proofs.YtpbniieiinhliaaGreat

namespace Go.Proofs.YtpbniieiinhliaaGreat
open Go.RowKit

structure XTile where
  name : ByteArray
  sides : List Int
def R_XTile (w : World) (f : List Nat) (cs : List Value) (t : XTile) : Prop := ∃ sv, cs = [.string t.name, sv] ∧ S_Int64S w f sv t.sides
theorem R_XTile.framed : Framed R_XTile := by
  rintro w w' f cs t ⟨sv, hc, h1⟩ hs
  exact ⟨sv, hc, h1.same hs⟩
def S_XTileS := SlOf R_XTile 2
theorem S_XTileS.same {w w' : World} {f : List Nat} {v : Value} {xs} (h : S_XTileS w f v xs) (hs : SameOn f w w') : S_XTileS w' f v xs := SlOf.same R_XTile.framed h hs
theorem S_XTileS.kb {w w' : World} {f : List Nat} {v : Value} {xs} {B : Nat} (h : S_XTileS w f v xs) (hf : Within f 0 B) (hb : Below B w w') : S_XTileS w' f v xs := h.same (SameOn.below hf hb (Nat.le_refl _))
theorem S_XTileS.at_ {w : World} {f : List Nat} {A : Option Addr} {n c : Nat} {xs : List XTile} (h : S_XTileS w f (.slice A n c) xs) (k : Nat) (hk : k < xs.length) : ∃ b o sA sc f1, A = some ⟨b, o, none⟩ ∧ b ∈ f ∧ (∀ x ∈ f1, x ∈ f) ∧
    w.cell? ⟨b, o + k * 2, none⟩ = some (.string xs[k].name) ∧ w.cell? ⟨b, o + k * 2 + 1, none⟩ = some (.slice sA xs[k].sides.length sc) ∧ S_Int64S w f1 (.slice sA xs[k].sides.length sc) xs[k].sides := by
  obtain ⟨b, o, cs, g, h1, h2, hg, ⟨sv, rfl, hs⟩, _, hc⟩ := SlOf.at_ h k hk
  obtain ⟨sA, sc, rfl, _, _⟩ := SlOf.len hs
  exact ⟨b, o, sA, sc, g, h1, h2, hg, by simpa using hc 0 _ rfl, by simpa [Nat.add_assoc] using hc 1 _ rfl, hs⟩

structure GlueOk (gs : List D_Glue) (i : Nat) (h : i < gs.length) : Prop where
  name : NameOk gs[i].g_Name
  str : 1 ≤ gs[i].g_Strength ∧ gs[i].g_Strength ≤ 4
  new_ : ∀ j (hj : j < i), gs[j].g_Name ≠ gs[i].g_Name
structure TileOk (n : Nat) (ts : List XTile) (i : Nat) (h : i < ts.length) : Prop where
  name : NameOk ts[i].name
  four : ts[i].sides.length = 4
  new_ : ∀ j (hj : j < i), ts[j].name ≠ ts[i].name
  sides : ∀ k (hk : k < ts[i].sides.length), 0 ≤ ts[i].sides[k] ∧ ts[i].sides[k] ≤ n
structure SetOk (gs : List D_Glue) (ts : List XTile) : Prop where
  g : gs.length ≤ 200
  t : 1 ≤ ts.length ∧ ts.length ≤ 160
  gl : ∀ i h, GlueOk gs i h
  tl : ∀ i h, TileOk gs.length ts i h
open Classical in
noncomputable def setB (gs : List D_Glue) (ts : List XTile) : Bool := decide (SetOk gs ts)
theorem setB_true {gs ts} (h : SetOk gs ts) : true = setB gs ts := by simp [setB, h]
theorem setB_false {gs ts} (h : ¬ SetOk gs ts) : false = setB gs ts := by simp [setB, h]
theorem setB_iff {gs ts} : setB gs ts = true ↔ SetOk gs ts := by simp [setB]

/-- The place of the first name that is s; the length if there is none. -/
def nameIdx {α : Type} (nm : α → ByteArray) (xs : List α) (s : ByteArray) : Nat := xs.findIdx fun x => decide (nm x = s)
theorem nameIdx_hit {α : Type} {nm : α → ByteArray} {xs : List α} {s : ByteArray} {i : Nat} (h : i < xs.length) (hi : nm xs[i] = s) (hb : ∀ j (hj : j < i), nm xs[j] ≠ s) : nameIdx nm xs s = i := by
  unfold nameIdx
  rw [List.findIdx_eq h]
  exact ⟨by simpa using hi, fun j hj => by simpa using hb j hj⟩
theorem nameIdx_none {α : Type} {nm : α → ByteArray} {xs : List α} {s : ByteArray} (hb : ∀ j (hj : j < xs.length), nm xs[j] ≠ s) : nameIdx nm xs s = xs.length := by
  unfold nameIdx
  refine List.findIdx_eq_length_of_false fun x hx => ?_
  obtain ⟨j, hj, rfl⟩ := List.getElem_of_mem hx
  simpa using hb j hj
theorem nameIdx_self {α : Type} {nm : α → ByteArray} {xs : List α} {i : Nat} (h : i < xs.length) : nameIdx nm xs (nm xs[i]) = i ↔ ∀ j (hj : j < i), nm xs[j] ≠ nm xs[i] := by
  unfold nameIdx
  rw [List.findIdx_eq h]
  constructor
  · exact fun hh j hj => by simpa using hh.2 j hj
  · exact fun hh => ⟨by simp, fun j hj => by simpa using hh j hj⟩
theorem nameIdx_le {α : Type} {nm : α → ByteArray} {xs : List α} {i : Nat} (h : i < xs.length) : nameIdx nm xs (nm xs[i]) ≤ i := by
  unfold nameIdx
  rcases Nat.lt_or_ge i (xs.findIdx fun x => decide (nm x = nm xs[i])) with hh | hh
  · have := List.not_of_lt_findIdx hh
    simp at this
  · exact hh
def hitI (i n : Nat) (hit miss : Int) : Int := if i < n then hit else miss
theorem hitI_yes {i n : Nat} {a b : Int} (h : i < n) : hitI i n a b = a := if_pos h
theorem hitI_no {i n : Nat} {a b : Int} (h : ¬ i < n) : hitI i n a b = b := if_neg h

end Go.Proofs.YtpbniieiinhliaaGreat

namespace Go.Proofs.YtpbniieiinhliaaGreat
open Go.RowKit

end Go.Proofs.YtpbniieiinhliaaGreat

namespace Go.Proofs.YtpbniieiinhliaaGreat
open Go.RowKit

def memB (s : ByteArray) (names : List ByteArray) : Bool := names.any fun x => decide (x = s)
theorem memB_iff {s : ByteArray} {names : List ByteArray} : memB s names = true ↔ s ∈ names := by simp [memB]
theorem memB_not {s : ByteArray} {names : List ByteArray} : memB s names = false ↔ s ∉ names := by rw [← Bool.not_eq_true, memB_iff]
def SeenInv (names : List ByteArray) (D : DataW Unit) : Prop := Go.Maps.IsMap D ∧ ∀ s : ByteArray, D.atKey (.string s.data.toList) (.lit (.bool false)) = .lit (.bool (memB s names))
theorem SeenInv.start : SeenInv [] (.map []) := ⟨Go.Maps.isMap_empty, fun s => by simp [DataW.atKey, memB]⟩
theorem SeenInv.put {names : List ByteArray} {D : DataW Unit} (h : SeenInv names D) (s : ByteArray) : SeenInv (names ++ [s]) (D.put (.string s.data.toList) (.lit (.bool true))) := by
  refine ⟨h.1.put _ _, fun x => ?_⟩
  by_cases hx : x = s
  · subst hx
    rw [Go.Maps.atKey_put_same h.1 (show WideAt.IsKeyLit (.string _) from trivial)]; simp [memB]
  · rw [Go.Maps.atKey_put_other (fun e => hx (by injection e with e; exact ByteArray.ext (Array.ext' e))), h.2 x]
    have : (decide (s = x)) = false := by simpa using fun e => hx e.symm
    simp [memB, this]
/-- The map in hand: its block, how many entries at most, what it has seen. -/
def Seen (w : World) (b n : Nat) (names : List ByteArray) : Prop := ∃ D : DataW Unit, w.ownsMap Tryz.prog 9 (plainElem Tryz.prog 4) b n D ∧ SeenInv names D
theorem zeroB (w : World) : (zeroValue 4).run Tryz.prog w = .ok (.bool false) w := by kernel_rfl
theorem Seen.start (w : World) : Seen (w.alloc (.map #[] 0)) w.heap.size 0 [] := ⟨_, World.ownsMap_made _ _ _ _, SeenInv.start⟩
theorem Seen.lt {w : World} {b n : Nat} {names : List ByteArray} (h : Seen w b n names) : b < w.heap.size := by obtain ⟨D, h, _⟩ := h; exact h.lt
theorem Seen.below {w w' : World} {b n : Nat} {names : List ByteArray} (h : Seen w b n names) {B : Nat} (hb : Below B w w') (hB : b < B) : Seen w' b n names := by
  obtain ⟨D, ⟨es, clock, hh, r⟩, hs⟩ := h
  exact ⟨D, ⟨es, clock, (hb.block b hB).trans hh, r⟩, hs⟩
theorem Seen.look {w : World} {b n : Nat} {names : List ByteArray} (h : Seen w b n names) (s : ByteArray) (hs : s.size ≤ maxLen) :
    (Instr.lookup 194 (.map (some b)) (.string s) false).run Tryz.prog w = .ok (.bool (memB s names)) w := by
  obtain ⟨D, ho, hi⟩ := h
  obtain ⟨v, ps, hrun, hv⟩ := ho.lookup (Go.Maps.string_keyed Tryz.underlying9) Tryz.underlying194 (zeroB w) (plainElem_bool Tryz.underlying4 false) (Go.WideMaps.keyOf_string_mk Tryz.underlying9 hs)
  rw [hi.2 s] at hv
  rw [hrun]
  have : v = .bool (memB s names) := by
    simp only [plainElem, Tryz.underlying4] at hv
    cases v <;> simp at hv
    rename_i x
    simp [hv.1]
  rw [this]
theorem Seen.put {w : World} {b n : Nat} {names : List ByteArray} (h : Seen w b n names) (hn : n < maxLen) (s : ByteArray) (hs : s.size ≤ maxLen) :
    ∃ w', (Instr.mapUpdate 194 (.map (some b)) (.string s) (.bool true)).run Tryz.prog w = .ok () w' ∧ Seen w' b (n + 1) (names ++ [s]) ∧ w.grownBy w' (some b) := by
  obtain ⟨D, ho, hi⟩ := h
  obtain ⟨w', hrun, hown, hg⟩ := ho.update (Go.Maps.string_keyed Tryz.underlying9) Tryz.underlying194 hn (Go.WideMaps.keyOf_string_mk Tryz.underlying9 hs) (plainElem_bool Tryz.underlying4 true)
  exact ⟨w', hrun, ⟨_, hown, hi.put s⟩, hg⟩

theorem below_grown {B : Nat} {w w1 w2 : World} {b : Nat} (h : Below B w w1) (hg : w1.grownBy w2 (some b)) (hb : B ≤ b) (hB : B ≤ w1.heap.size) : Below B w w2 :=
  h.grown hg hB (fun k hk => by injection hk with hk; omega)

/-- The first place at which p holds; the length if there is none. -/
def pIdx {α : Type} (p : α → Bool) (xs : List α) : Nat := xs.findIdx p
theorem pIdx_hit {α : Type} {p : α → Bool} {xs : List α} {i : Nat} (h : i < xs.length) (hi : p xs[i] = true) (hb : ∀ j (hj : j < i), p xs[j] = false) : pIdx p xs = i := by
  unfold pIdx; rw [List.findIdx_eq h]; exact ⟨hi, hb⟩
theorem pIdx_none {α : Type} {p : α → Bool} {xs : List α} (hb : ∀ j (hj : j < xs.length), p xs[j] = false) : pIdx p xs = xs.length := by
  unfold pIdx
  refine List.findIdx_eq_length_of_false fun x hx => ?_
  obtain ⟨j, hj, rfl⟩ := List.getElem_of_mem hx
  exact hb j hj
theorem pIdx_any {α : Type} (p : α → Bool) (xs : List α) : decide (pIdx p xs < xs.length) = xs.any p := by
  unfold pIdx
  rw [Bool.eq_iff_iff, decide_eq_true_iff, List.findIdx_lt_length, List.any_eq_true]
set_option maxRecDepth 100000 in
set_option maxHeartbeats 1000000 in
theorem indexFuncInt_any (w : World) (A : Option Addr) (n c : Nat) (f : List Nat) (xs : List Int) (g : FuncId) (cb : Array Value) (pr : Int → Bool) (eg : ∀ args w, (callFunc g args).run Tryz.prog w = .ok (.enter g args) w) (hx : S_Int64S w f (.slice A n c) xs) (hf : Within f 0 w.heap.size)
    (hp : ∀ W, Below w.heap.size w W → ∀ x ∈ xs, Calls Tryz.prog g (#[.int .i64 x] ++ cb) W fun e W' => e = .returned (.bool (pr x)) ∧ Below W.heap.size W W') :
    Calls Tryz.prog 126 #[.slice A n c, .func (.func g) #[] cb] w fun e w' => e = .returned (.int .i64 (hitI (pIdx pr xs) xs.length (pIdx pr xs) (-1))) ∧ Below w.heap.size w w' := by
  obtain ⟨e1, b1, _⟩ := SlOf.n_eq hx
  replace e1 := Lib.hid e1
  replace hp := Lib.hid hp
  go_enter Tryz.func126, Tryz.ntmps126
  go_wp2_with fail
  go_loopw [8] (fun i wr => ∃ k : Nat, k ≤ n ∧ i = .int .i64 k ∧ Hid (∀ j (h : j < xs.length), j < k → pr xs[j] = false) ∧ Below w.heap.size w wr) (fun i _ => n - (intOf i).toNat)
  case atStart => exact ⟨0, Nat.zero_le _, rfl, Lib.hid (fun j h hj => by omega), Below.refl _ _⟩
  case round =>
    obtain ⟨k, hk, rfl, hall, hb⟩ := hrel
    by_cases hlt : k < n
    · have hkl : k < xs.length := by have := e1.out; omega
      obtain ⟨b, o, rfl, _, q0⟩ := (hx.kb hf hb).at_ k hkl
      go_wp2_with fail
      refine (hp.out _ hb xs[k] (List.getElem_mem _)).mono ?_
      rintro e w1 ⟨rfl, z1⟩
      have hb1 := hb.trans (z1.mono hb.size)
      cases hv : pr xs[k]
      · replace hv := Lib.hid hv
        go_wp2_with fail
        go_roundw
        case rel => exact ⟨k + 1, by omega, by go_num, Lib.hid (fun j h hj => by
          by_cases hjk : j = k
          · subst hjk; exact hv.out
          · exact hall.out j h (by omega)), hb1⟩
        case measure => simp [intOf]; omega
      · replace hv := Lib.hid hv
        go_wp2_with fail
        go_ret
        have hi := pIdx_hit (p := pr) hkl hv.out (fun j hj => hall.out j (by omega) hj)
        exact ⟨ret_i (by rw [hi, hitI_yes hkl]), hb1⟩
    · go_wp2_with fail
      go_ret
      have hi := pIdx_none (p := pr) (fun j hj => hall.out j hj (by have := e1.out; omega))
      exact ⟨ret_i (by rw [hi, hitI_no (by omega)]), hb⟩

theorem hit_ge (i n : Nat) : decide ((0 : Int) ≤ hitI i n i (-1)) = decide (i < n) := by
  unfold hitI; split <;> simp_all <;> omega

set_option maxRecDepth 100000 in
set_option maxHeartbeats 1000000 in
theorem containsFuncInt_any (w : World) (A : Option Addr) (n c : Nat) (f : List Nat) (xs : List Int) (g : FuncId) (cb : Array Value) (pr : Int → Bool) (eg : ∀ args w, (callFunc g args).run Tryz.prog w = .ok (.enter g args) w) (hx : S_Int64S w f (.slice A n c) xs) (hf : Within f 0 w.heap.size)
    (hp : ∀ W, Below w.heap.size w W → ∀ x ∈ xs, Calls Tryz.prog g (#[.int .i64 x] ++ cb) W fun e W' => e = .returned (.bool (pr x)) ∧ Below W.heap.size W W') :
    Calls Tryz.prog 96 #[.slice A n c, .func (.func g) #[] cb] w fun e w' => e = .returned (.bool (xs.any pr)) ∧ Below w.heap.size w w' := by
  replace hp := Lib.hid hp
  go_enter Tryz.func96, Tryz.ntmps96
  go_wp2_with fail
  refine (indexFuncInt_any w A n c f xs g cb pr eg hx hf hp.out).mono ?_
  rintro e w1 ⟨rfl, hb⟩
  go_wp2_with fail
  go_ret
  exact ⟨ret_b (by rw [hit_ge, pIdx_any]), hb⟩

end Go.Proofs.YtpbniieiinhliaaGreat

namespace Go.Proofs.YtpbniieiinhliaaGreat
open Go.RowKit

theorem eg_vs1 (args : Array Value) (w : World) : (callFunc 147 args).run Tryz.prog w = .ok (.enter 147 args) w := enters_of Tryz.func147 (by kernel_rfl) rfl args w

set_option maxRecDepth 100000 in
set_option maxHeartbeats 400000 in
theorem validSet1_any (w : World) (g : Int) (p : Nat) (A : Option Addr) (n c : Nat) (hp0 : w.cell? ⟨p, 0, none⟩ = some (.slice A n c)) :
    Calls Tryz.prog 147 #[.int .i64 g, .pointer (some ⟨p, 0, none⟩)] w fun e w' => e = .returned (.bool (!inB g 0 n)) ∧ w = w' := by
  go_enter Tryz.func147, Tryz.ntmps147
  go_wp2_with fail
  refine (within_any _ _ _ _).mono ?_
  rintro e w' ⟨rfl, rfl⟩
  go_wp2_with fail
  go_ret
  exact ⟨rfl, rfl⟩

theorem names_take {α : Type} {nm : α → ByteArray} {xs : List α} {k : Nat} (hk : k < xs.length) : (xs.take (k + 1)).map nm = (xs.take k).map nm ++ [nm xs[k]] := by
  rw [List.take_succ_eq_append_getElem hk, List.map_append, List.map_cons, List.map_nil]
theorem mem_names {α : Type} {nm : α → ByteArray} {xs : List α} {k : Nat} {s : ByteArray} (hk : k ≤ xs.length) : s ∈ (xs.take k).map nm ↔ ∃ j, ∃ h : j < xs.length, j < k ∧ nm xs[j] = s := by
  rw [List.mem_map]
  constructor
  · rintro ⟨x, hx, rfl⟩
    obtain ⟨j, hj, rfl⟩ := List.getElem_of_mem hx
    rw [List.length_take] at hj
    exact ⟨j, by omega, by omega, by simp⟩
  · rintro ⟨j, h, hj, rfl⟩
    exact ⟨xs[j], List.mem_take_iff_getElem.2 ⟨j, by omega, rfl⟩, rfl⟩

set_option maxRecDepth 100000 in
set_option maxHeartbeats 2000000 in
theorem validSet_any (w : World) (A : Option Addr) (n c : Nat) (f : List Nat) (gs : List D_Glue) (B : Option Addr) (m d : Nat) (f' : List Nat) (ts : List XTile)
    (hx : S_GlueS w f (.slice A n c) gs) (hy : S_XTileS w f' (.slice B m d) ts)
    (hf : Within f 0 w.heap.size) (hf' : Within f' 0 w.heap.size) (sg : ∀ i (h : i < gs.length), gs[i].g_Name.size ≤ 9223372036854775807) (st : ∀ i (h : i < ts.length), ts[i].name.size ≤ 9223372036854775807) :
    Calls Tryz.prog 130 #[.agg #[.slice A n c, .slice B m d]] w fun e w' => e = .returned (.bool (setB gs ts)) ∧ Below w.heap.size w w' := by
  obtain ⟨e1, b1, _⟩ := SlOf.n_eq hx
  obtain ⟨e2, b2, _⟩ := SlOf.n_eq hy
  replace e1 := Lib.hid e1
  replace e2 := Lib.hid e2
  have y0 : Below w.heap.size w (w.alloc (.cells #[.slice A n c, .slice B m d] 173)) := (Below.refl _ _).alloc (Nat.le_refl _) _
  have hmm := @run_makeMap Tryz.prog
  have hmf : ∀ (fn : Fn) (first cap : Array Value) (w : World), (Instr.makeFunc fn first cap).run Tryz.prog w = .ok (.func fn first cap) w := fun _ _ _ _ => rfl
  by_cases h1 : n ≤ 200
  case neg =>
    go_enter Tryz.func130, Tryz.ntmps130
    go_wp2_with fail
    go_ret
    exact ⟨ret_b (setB_false fun h => h1 (by have := h.g; have := e1.out; omega)), y0⟩
  cases h2 : inB m 1 160
  · go_enter Tryz.func130, Tryz.ntmps130
    go_wp2_with fail
    refine (within_any _ _ _ _).mono ?_
    rintro e w' ⟨rfl, rfl⟩
    rw [h2]
    go_wp2_with fail
    go_ret
    exact ⟨ret_b (setB_false fun h => by have := inB_of (n := (m : Int)) (lo := 1) (hi := 160) (by have := h.t; have := e2.out; omega); rw [h2] at this; cases this), y0⟩
  have h2' := inB_true h2
  replace h2 := Lib.hid h2
  go_enter Tryz.func130, Tryz.ntmps130
  go_wp2_with fail
  refine (within_any _ _ _ _).mono ?_
  rintro e w' ⟨rfl, rfl⟩
  rw [h2.out]
  go_wp2_with fail
  have hS0 := Seen.start (w.alloc (.cells #[.slice A n c, .slice B m d] 173))
  have hB0 : ((w.alloc (.cells #[.slice A n c, .slice B m d] 173)).alloc (.map #[] 0)).heap[w.heap.size]? = some (.cells #[.slice A n c, .slice B m d] 173) := (Below.heap_alloc _ _ _ (by simp)).trans (heap_alloc_new _ _)
  have y1 : Below w.heap.size w ((w.alloc (.cells #[.slice A n c, .slice B m d] 173)).alloc (.map #[] 0)) := y0.alloc (by simp) _
  replace hB0 := Lib.hid hB0
  replace hS0 := Lib.hid hS0
  go_loopw [24] (fun i wr => ∃ k : Nat, k ≤ n ∧ i = .int .i64 k ∧ Hid (∀ j (h : j < gs.length), j < k → GlueOk gs j h) ∧ Below w.heap.size w wr ∧ Hid (wr.heap[w.heap.size]? = some (.cells #[.slice A n c, .slice B m d] 173)) ∧ Hid (Seen wr (w.heap.size + 1) k ((gs.take k).map D_Glue.g_Name))) (fun i _ => n - (intOf i).toNat)
  case atStart => exact ⟨0, Nat.zero_le _, rfl, Lib.hid (fun j h hj => by omega), y1, hB0, by simpa using hS0⟩
  clear hS0 hB0 y0 y1
  case round =>
    obtain ⟨k, hk, rfl, hall, hb, hB, hS⟩ := hrel
    have C0 := fun j => cell_of_row wr w.heap.size j _ _ _ hB.out
    by_cases hlt : k < n
    · have hkl : k < gs.length := by have := e1.out; omega
      obtain ⟨b, o, rfl, _, q0, q1⟩ := (hx.kb hf hb).at_ k hkl
      go_wp2_with fail
      have hb1 : Below w.heap.size w (wr.alloc (.cells #[.string gs[k].g_Name, .int .i64 gs[k].g_Strength] 116)) := hb.alloc hb.size _
      have hSa : Seen (wr.alloc (.cells #[.string gs[k].g_Name, .int .i64 gs[k].g_Strength] 116)) (w.heap.size + 1) k ((gs.take k).map D_Glue.g_Name) := hS.out.below ((Below.refl _ _).alloc (Nat.le_refl _) _) hS.out.lt
      refine (iIsName_any _ _ (sg k hkl)).mono ?_
      rintro e w' ⟨rfl, rfl⟩
      cases hn : nameB gs[k].g_Name
      · go_wp2_with fail
        go_ret
        exact ⟨ret_b (setB_false fun h => by have := nameB_iff.2 (h.gl k hkl).name; rw [hn] at this; cases this), hb1⟩
      replace hn := Lib.hid hn
      have hlk := hSa.look gs[k].g_Name (by simp only [maxLen]; have := sg k hkl; omega)
      cases hm : memB gs[k].g_Name ((gs.take k).map D_Glue.g_Name)
      case true =>
        rw [hm] at hlk
        replace hm := Lib.hid hm
        go_wp2_with fail
        go_ret
        refine ⟨ret_b (setB_false fun h => ?_), hb1⟩
        obtain ⟨j, hj, hjk, he⟩ := (mem_names (by omega)).1 (memB_iff.1 hm.out)
        exact (h.gl k hkl).new_ j hjk he
      rw [hm] at hlk
      replace hm := Lib.hid hm
      go_wp2_with fail
      refine (within_any _ _ _ _).mono ?_
      rintro e w' ⟨rfl, rfl⟩
      cases hs : inB gs[k].g_Strength 1 4
      · go_wp2_with fail
        go_ret
        exact ⟨ret_b (setB_false fun h => by have := inB_of (h.gl k hkl).str; rw [hs] at this; cases this), hb1⟩
      replace hs := Lib.hid hs
      clear hlk
      obtain ⟨w2, hup, hS2, hg2⟩ := hSa.put (by simp only [maxLen]; omega) gs[k].g_Name (by simp only [maxLen]; have := sg k hkl; omega)
      go_wp2_with fail
      go_roundw
      case rel =>
        refine ⟨k + 1, by omega, by go_num, Lib.hid (fun j h hj => ?_), below_grown hb1 hg2 (by omega) (by have := hb.size; simp; omega), Lib.hid ?_, Lib.hid (by rw [names_take hkl]; exact hS2)⟩
        · by_cases hjk : j = k
          · subst hjk
            exact ⟨nameB_iff.1 hn.out, inB_true hs.out, fun i hi he => (memB_not.1 hm.out) ((mem_names (by omega)).2 ⟨i, by omega, hi, he⟩)⟩
          · exact hall.out j h (by omega)
        · exact (hg2.block _ (by have := heap_lt hB.out; simp; omega) (by simp)).trans ((Below.heap_alloc _ _ _ (heap_lt hB.out)).trans hB.out)
      case measure => simp [intOf]; omega
    · replace hall : Hid (∀ j (h : j < gs.length), GlueOk gs j h) := Lib.hid fun j h => hall.out j h (by have := e1.out; omega)
      have hbl := heap_lt hB.out
      go_wp2_with fail
      have hS0 := Seen.start wr
      have hB0 : (wr.alloc (.map #[] 0)).heap[w.heap.size]? = some (.cells #[.slice A n c, .slice B m d] 173) := (Below.heap_alloc _ _ _ hbl).trans hB.out
      have y1 : Below w.heap.size w (wr.alloc (.map #[] 0)) := hb.alloc hb.size _
      replace hB0 := Lib.hid hB0
      replace hS0 := Lib.hid hS0
      obtain ⟨bm, hbm⟩ : ∃ bm, bm = wr.heap.size := ⟨_, rfl⟩
      have hbm0 : w.heap.size ≤ bm := by rw [hbm]; exact hb.size
      have hbm1 : w.heap.size ≠ bm := by omega
      rw [← hbm] at hS0 ⊢
      replace hbm := Lib.hid hbm
      clear C0 hS hB hb
      go_loopw [52] (fun i wr => ∃ k : Nat, k ≤ m ∧ i = .int .i64 k ∧ Hid (∀ j (h : j < ts.length), j < k → TileOk gs.length ts j h) ∧ Below w.heap.size w wr ∧ Hid (wr.heap[w.heap.size]? = some (.cells #[.slice A n c, .slice B m d] 173)) ∧ Hid (Seen wr bm k ((ts.take k).map XTile.name))) (fun i _ => m - (intOf i).toNat)
      case atStart => exact ⟨0, Nat.zero_le _, rfl, Lib.hid (fun j h hj => by omega), y1, hB0, by simpa using hS0⟩
      clear hS0 hB0 y1
      case round =>
        obtain ⟨i, hi, rfl, hat, hb, hB, hS⟩ := hrel
        have C0 := fun j => cell_of_row wr w.heap.size j _ _ _ hB.out
        by_cases hlt2 : i < m
        · have hil : i < ts.length := by have := e2.out; omega
          obtain ⟨b, o, sA, sc, f1, rfl, _, hf1, q0, q1, s1⟩ := (hy.kb hf' hb).at_ i hil
          go_wp2_with fail
          have hb1 : Below w.heap.size w (wr.alloc (.cells #[.string ts[i].name, .slice sA ts[i].sides.length sc] 191)) := hb.alloc hb.size _
          have hSa : Seen (wr.alloc (.cells #[.string ts[i].name, .slice sA ts[i].sides.length sc] 191)) bm i ((ts.take i).map XTile.name) := hS.out.below ((Below.refl _ _).alloc (Nat.le_refl _) _) hS.out.lt
          refine (iIsName_any _ _ (st i hil)).mono ?_
          rintro e w' ⟨rfl, rfl⟩
          cases hn : nameB ts[i].name
          · go_wp2_with fail
            go_ret
            exact ⟨ret_b (setB_false fun h => by have := nameB_iff.2 (h.tl i hil).name; rw [hn] at this; cases this), hb1⟩
          replace hn := Lib.hid hn
          have hlk := hSa.look ts[i].name (by simp only [maxLen]; have := st i hil; omega)
          cases hm : memB ts[i].name ((ts.take i).map XTile.name)
          case true =>
            rw [hm] at hlk
            replace hm := Lib.hid hm
            go_wp2_with fail
            go_ret
            refine ⟨ret_b (setB_false fun h => ?_), hb1⟩
            obtain ⟨j, hj, hjk, he⟩ := (mem_names (by omega)).1 (memB_iff.1 hm.out)
            exact (h.tl i hil).new_ j hjk he
          rw [hm] at hlk
          replace hm := Lib.hid hm
          by_cases h4 : ts[i].sides.length = 4
          case neg =>
            have h4' : ((ts[i].sides.length : Int) != 4) = true := by rw [bne_iff_ne]; omega
            replace h4 := Lib.hid h4
            go_wp2_with fail
            go_ret
            exact ⟨ret_b (setB_false fun h => h4.out (h.tl i hil).four), hb1⟩
          have h4' : ((ts[i].sides.length : Int) != 4) = false := by rw [bne_eq_false_iff_eq]; omega
          replace h4 := Lib.hid h4
          obtain ⟨w2, hup, hS2, hg2⟩ := hSa.put (by simp only [maxLen]; omega) ts[i].name (by simp only [maxLen]; have := st i hil; omega)
          have hwl : wr.heap.size < w2.heap.size := by have := hg2.size; simp at this; omega
          have hbl2 := heap_lt hB.out
          have hbmw : bm < wr.heap.size := by have := hS.out.lt; exact this
          have hbx : w2.heap[wr.heap.size]? = some (.cells #[.string ts[i].name, .slice sA ts[i].sides.length sc] 191) := (hg2.block _ (by simp) (by simp; omega)).trans (heap_alloc_new _ _)
          have hB2 := (hg2.block w.heap.size (by simp; omega) (by simp; omega)).trans ((Below.heap_alloc _ _ _ hbl2).trans hB.out)
          have C2 := fun j => cell_of_row w2 wr.heap.size j _ _ _ hbx
          have hb2 : Below w.heap.size w w2 := below_grown hb1 hg2 hbm0 (by have := hb.size; simp; omega)
          replace hbx := Lib.hid hbx
          replace hB2 := Lib.hid hB2
          go_wp2_with fail
          have hbw : Below w.heap.size wr w2 := below_grown (((Below.refl wr.heap.size wr).alloc (Nat.le_refl _) _).mono hb.size) hg2 hbm0 (by have := hb.size; simp; omega)
          refine (containsFuncInt_any w2 sA _ sc f1 ts[i].sides _ _ (fun g => !inB g 0 n) eg_vs1 (s1.kb (fun x hx => hf' x (hf1 x hx)) hbw) (fun x hx => ⟨Nat.zero_le _, Nat.lt_of_lt_of_le (hf' x (hf1 x hx)).2 hb2.size⟩) ?_).mono ?_
          · intro W hW x _
            have hlt2' := heap_lt hB2.out
            refine (validSet1_any W x w.heap.size _ _ _ ((hW.cell (p := ⟨w.heap.size, 0, none⟩) hlt2').trans (cell_of_row w2 w.heap.size 0 _ _ _ hB2.out))).mono ?_
            rintro e w' ⟨rfl, rfl⟩
            exact ⟨rfl, Below.refl _ _⟩
          rintro e w3 ⟨rfl, z3⟩
          have hb3 := hb2.trans (z3.mono hb2.size)
          cases ha : ts[i].sides.any fun g => !inB g 0 n
          · replace ha := Lib.hid ha
            go_wp2_with fail
            go_roundw
            case rel =>
              refine ⟨i + 1, by omega, by go_num, Lib.hid (fun j h hj => ?_), hb3, Lib.hid ((z3.block _ (heap_lt hB2.out)).trans hB2.out), Lib.hid (by rw [names_take hil]; exact hS2.below z3 hS2.lt)⟩
              by_cases hji : j = i
              · subst hji
                refine ⟨nameB_iff.1 hn.out, h4.out, fun q hq he => (memB_not.1 hm.out) ((mem_names (by omega)).2 ⟨q, by omega, hq, he⟩), fun q hq => ?_⟩
                have h1 := List.any_eq_false.1 ha.out ts[j].sides[q] (List.getElem_mem _)
                have h2 := inB_true (n := ts[j].sides[q]) (lo := 0) (hi := n) (by simpa using h1)
                have := e1.out; omega
              · exact hat.out j h (by omega)
            case measure => simp [intOf]; omega
          · replace ha := Lib.hid ha
            go_wp2_with fail
            go_ret
            refine ⟨ret_b (setB_false fun h => ?_), hb3⟩
            obtain ⟨x, hx', hxv⟩ := List.any_eq_true.1 ha.out
            obtain ⟨q, hq, rfl⟩ := List.getElem_of_mem hx'
            have := inB_of ((h.tl i hil).sides q hq)
            rw [← e1.out] at this
            rw [this] at hxv; simp at hxv
        · go_wp2_with fail
          go_ret
          exact ⟨ret_b (setB_true ⟨by have := e1.out; omega, by have := e2.out; omega, hall.out, fun j h => hat.out j h (by have := e2.out; omega)⟩), hb⟩

end Go.Proofs.YtpbniieiinhliaaGreat

namespace Go.Proofs.YtpbniieiinhliaaGreat
open Go.RowKit

section
variable {P : Program} {w : World}
theorem run_append_nilsrc (base : Nat) (t ty e : TypeId) (i : TypeInfo) (size : Nat) (ht : P.underlying t = some (.slice e)) (hi : P.info? e = some i)
    (v : Value) (n : Nat) (xs : List Value) (hown : w.ownsRow base e size v n xs) (c : Nat) : (Builtin.append_ #[t, t] ty #[v, .slice none 0 c]).run P w = .ok v w := by
  obtain ⟨_, ⟨rfl, rfl⟩ | ⟨g, cap, cur, rfl, _, _, hnc, _⟩⟩ := hown
  · simp [Builtin.append_, run_underlying ht, sizeOf, typeInfo, hi, Builtin.lenOf, Builtin.firstCells]
  · simp [Builtin.append_, run_underlying ht, sizeOf, typeInfo, hi, Builtin.lenOf, Builtin.firstCells, hnc, storeCells]

theorem run_append_sl (base : Nat) (t ty e : TypeId) (i : TypeInfo) (z : Value) (size bytes : Nat) (ht : P.underlying t = some (.slice e)) (hi : P.info? e = some i) (hz : i.zero = some z)
    (hsize : i.size = size) (hby : i.bytes = bytes) (hzs : z.cells.size = size) (hsz : 0 < size)
    (v : Value) (n : Nat) (xs : List Value) (hown : w.ownsRow base e size v n xs) (f : List Nat) (A : Option Addr) (m c : Nat) (news : List Value) (hs : Sl w f (.slice A m c) m news) (hl : news.length = m * size)
    (h1 : ∀ u ∈ news, u.oneCell' = true) (h63 : n + m ≤ maxLen) (hbytes : (n + m) * bytes ≤ 140737488355328) (hbase : base ≤ w.heap.size) :
    ∃ v' w', (Builtin.append_ #[t, t] ty #[v, .slice A m c]).run P w = .ok v' w' ∧ w'.ownsRow base e size v' (n + m) (xs ++ news) ∧ w.grownBy w' v.ownBlock ∧ (v'.ownBlock = v.ownBlock ∨ v'.ownBlock = some w.heap.size) := by
  obtain ⟨A', c', hv, _, _, hc⟩ := hs
  simp only [Value.slice.injEq] at hv
  obtain ⟨rfl, _, rfl⟩ := hv
  cases A with
  | none =>
    have hm : m = 0 := by
      rcases hc with ⟨_, h⟩ | ⟨b, o, _, h, _⟩
      · exact h
      · cases h
    subst hm
    have hn : news = [] := List.eq_nil_of_length_eq_zero (by simpa using hl)
    subst hn
    exact ⟨v, w, run_append_nilsrc base t ty e i size ht hi v n xs hown c, by simpa using hown, World.grownBy.refl _ _, .inl rfl⟩
  | some ad =>
    have hnews : ∀ j u, news[j]? = some u → w.cell? (ad.add j) = some u := by
      intro j u hj
      rcases hc with ⟨_, h⟩ | ⟨b, o, _, h, hcell⟩
      · subst h
        have hn : news = [] := List.eq_nil_of_length_eq_zero (by simpa using hl)
        subst hn; simp at hj
      · injection h with h
        subst h
        rw [Addr.add_lit]; exact hcell j u hj
    obtain ⟨v', w', a, b, cc, hd⟩ := run_append_own (P := P) w base t ty e i z size bytes ht hi hz hsize hby hzs hsz v n xs hown ad m c news hl hnews h1 h63 hbytes hbase
    refine ⟨v', w', a, b, cc, ?_⟩
    simp only [maxLen] at h63
    subst hsize
    subst hby
    obtain ⟨hl0, ⟨rfl, rfl⟩ | ⟨g, cap, cur, rfl, hbg, hg, hnc, hcm, hcs, htake⟩⟩ := hown
    · by_cases hm : m = 0
      · left; rw [hd.2 ⟨rfl, hm⟩]
      · right
        have hr := run_append_nil (P := P) w t ty e i z ht hi hz ad m c news hl hnews (by omega) (by omega) (by simp only [Nat.zero_add] at hbytes; omega)
        rw [hr] at a
        injection a with a1 a2
        rw [← a1]; rfl
    · by_cases hroom : n + m ≤ cap
      · left
        have hr := run_append_room (P := P) w t ty e i ht hi g n cap cur hg ad m c news hl hnews h1 hroom (by rw [hl, hcs, ← Nat.add_mul]; exact Nat.mul_le_mul_right _ hroom)
        rw [hr] at a
        injection a with a1 a2
        rw [← a1]; rfl
      · right
        have hh : w.ownsRow base e i.size (.slice (some ⟨g, 0, none⟩) n cap) n xs := ⟨hl0, .inr ⟨g, cap, cur, rfl, hbg, hg, hnc, hcm, hcs, htake⟩⟩
        have hr := run_append_grow (P := P) w t ty e i z ht hi hz ⟨g, 0, none⟩ n cap xs hl0 (hh.cells (g := g) rfl) ad m c news hl hnews (by omega) (by omega) (growslice_fits (by omega) hbytes)
        rw [hr] at a
        injection a with a1 a2
        rw [← a1]; rfl

theorem wpList_append_sl {ops : Array Oper} {rest : List Oper} {o : Oper} {a : Act} {Q : Exit → Act → World → Prop} (hgd : o.guard = none) (s x : Operand) (t : TypeId)
    (ho : o.op = .call { callee := .builtin .append, args := #[s, x], argTypes := #[t, t] })
    (base : Nat) (e : TypeId) (i : TypeInfo) (z : Value) (size bytes : Nat) (ht : P.underlying t = some (.slice e)) (hi : P.info? e = some i) (hz : i.zero = some z)
    (hsize : i.size = size) (hby : i.bytes = bytes) (hzs : z.cells.size = size) (hsz : 0 < size)
    (v : Value) (n : Nat) (xs : List Value) (hs : a.eval s = v) (hown : w.ownsRow base e size v n xs) (f : List Nat) (A : Option Addr) (m c : Nat) (news : List Value) (hx : a.eval x = .slice A m c) (hsl : Sl w f (.slice A m c) m news) (hl : news.length = m * size)
    (h1 : ∀ u ∈ news, u.oneCell' = true) (h63 : n + m ≤ maxLen) (hbytes : (n + m) * bytes ≤ 140737488355328) (hbase : base ≤ w.heap.size)
    (h : ∀ v' w', w'.ownsRow base e size v' (n + m) (xs ++ news) → w.grownBy w' v.ownBlock → (v'.ownBlock = v.ownBlock ∨ v'.ownBlock = some w.heap.size) → wpList P ops Q rest (a.put o.dst v') w') : wpList P ops Q (o :: rest) a w := by
  refine wpList_plain hgd fun K hK => ?_
  obtain ⟨v', w', hr, h2, h3, h4⟩ := run_append_sl (P := P) (w := w) base t o.type e i z size bytes ht hi hz hsize hby hzs hsz v n xs hown f A m c news hsl hl h1 h63 hbytes hbase
  unfold Oper.wp execOp
  simp only [ho, resolve, invoke, builtin, Sem.run_bind, Sem.run_pure, Result.andThen_ok, List.map_toArray, List.map_cons, List.map_nil, hs, hx, hr]
  exact hK _ _ (h v' w' h2 h3 h4)
end

/-- A row that the call owns, told as a slice that stands for a list of flat elements. -/
theorem own_sl {w : World} {base : Nat} {e : TypeId} {sz : Nat} {v : Value} {n : Nat} {xs : List Value} (h : w.ownsRow base e sz v n xs) :
    ∃ A c fp, v = .slice A n c ∧ Sl w fp v n xs ∧ Within fp base w.heap.size ∧ fp.Nodup ∧ (∀ b ∈ fp, Unf w b) ∧ (∀ b ∈ fp, v.ownBlock = some b) := by
  obtain ⟨hl, ⟨rfl, rfl⟩ | ⟨g, cap, cur, rfl, hb, hh, hn, hm, hs, ht⟩⟩ := h
  · have : xs = [] := List.eq_nil_of_length_eq_zero (by simpa using hl)
    subst this
    exact ⟨none, 0, [], rfl, Sl.nil w, Within.nil _ _, List.nodup_nil, (fun _ h => by cases h), (fun _ h => by cases h)⟩
  · refine ⟨some ⟨g, 0, none⟩, cap, [g], rfl, ⟨_, _, rfl, hn, hm, .inr ⟨g, 0, rfl, rfl, fun j u hj => ?_⟩⟩, Within.one hb (heap_lt hh), by simp, fun b hb => ?_, fun b hb => ?_⟩
    · rw [cell_of_row w g (0 + j) cur e (0, 0) hh, Nat.zero_add]
      rw [← ht, List.getElem?_take] at hj
      split at hj
      · simpa using hj
      · cases hj
    · have : b = g := by simpa using hb
      subst this; exact ⟨_, _, hh⟩
    · have : b = g := by simpa using hb
      subst this; rfl
/-- An empty row that a literal '[]T{}' has made. -/
theorem own_empty (w : World) (e : TypeId) (sz : Nat) (hs : 0 < sz) : (w.alloc (.cells #[] e)).ownsRow w.heap.size e sz (.slice (some ⟨w.heap.size, 0, none⟩) 0 0) 0 [] :=
  World.ownsRow_made w #[] 0 (Nat.le_refl _) (by simp [maxLen]) (by simp)

/-- The state of a slice that is built by appending, its elements' own memory beside it. -/
def AppInv {α : Type} (rep : World → List Nat → List Value → α → Prop) (sz : Nat) (E : TypeId) (base : Nat) (w : World) (v : Value) (ds : List α) : Prop :=
  ∃ css fps, w.ownsRow base E sz v ds.length css.flatten ∧ Reps rep sz w css fps ds ∧ Within fps.flatten base w.heap.size ∧ fps.flatten.Nodup ∧ ∀ b ∈ fps.flatten, Unf w b ∧ v.ownBlock ≠ some b

theorem AppInv.start {α : Type} (rep : World → List Nat → List Value → α → Prop) (sz : Nat) (E : TypeId) (base : Nat) (w : World) : AppInv rep sz E base w (.slice none 0 0) ([] : List α) :=
  ⟨[], [], World.ownsRow_nil _ _ _ _, ⟨rfl, rfl, fun i cs f d hc => by simp at hc⟩, Within.nil _ _, List.nodup_nil, (fun _ h => by cases h)⟩
/-- Whatever leaves all that was there (from base on) unturned keeps it. -/
theorem AppInv.keep {α : Type} {rep : World → List Nat → List Value → α → Prop} (hF : Framed rep) {sz : Nat} {E : TypeId} {base : Nat} {w w' : World} {v : Value} {ds : List α} (h : AppInv rep sz E base w v ds)
    (hk : ∀ b, base ≤ b → b < w.heap.size → w'.heap[b]? = w.heap[b]? ∨ (v.ownBlock ≠ some b ∧ ∀ css fps, Reps rep sz w css fps ds → b ∉ fps.flatten)) (hs : w.heap.size ≤ w'.heap.size) : AppInv rep sz E base w' v ds := by
  obtain ⟨css, fps, ho, hr, hw, hn, hu⟩ := h
  have hsame : SameOn fps.flatten w w' := fun b hb => by
    rcases hk b (hw b hb).1 (hw b hb).2 with h | ⟨_, h⟩
    · exact h
    · exact absurd hb (h css fps hr)
  refine ⟨css, fps, ?_, hr.same hF hsame, hw.wide (Nat.le_refl _) hs, hn, fun b hb => ⟨(hu b hb).1.same (hsame b hb), (hu b hb).2⟩⟩
  obtain ⟨hl, h | ⟨g, cap, cur, rfl, hb, hh, r⟩⟩ := ho
  · exact ⟨hl, .inl h⟩
  · refine ⟨hl, .inr ⟨g, cap, cur, rfl, hb, ?_, r⟩⟩
    rcases hk g hb (heap_lt hh) with h | ⟨h, _⟩
    · exact h.trans hh
    · exact absurd rfl h
theorem AppInv.below {α : Type} {rep : World → List Nat → List Value → α → Prop} (hF : Framed rep) {sz : Nat} {E : TypeId} {base : Nat} {w w' : World} {v : Value} {ds : List α} (h : AppInv rep sz E base w v ds) (hb : Below w.heap.size w w') : AppInv rep sz E base w' v ds :=
  h.keep hF (fun b _ hlt => .inl (hb.block b hlt)) hb.size

/-- One element more: the callee's world is w1, the boxed element lies in w2, the append leads to w3. -/
theorem AppInv.step {α : Type} {rep : World → List Nat → List Value → α → Prop} (hF : Framed rep) {sz : Nat} {E : TypeId} {base : Nat} {w w1 w2 w3 : World} {v v' : Value} {ds : List α} {d : α} {cs : List Value} {f : List Nat}
    (h : AppInv rep sz E base w v ds) (hb1 : Below w.heap.size w w1) (hr : rep w1 f cs d) (hl : cs.length = sz) (hfr : Fresh w w1 f) (hbase : base ≤ w.heap.size) (hb2 : Below w1.heap.size w1 w2)
    (hown : ∀ css : List (List Value), w2.ownsRow base E sz v ds.length css.flatten → w3.ownsRow base E sz v' (ds.length + 1) (css.flatten ++ cs)) (hg : w2.grownBy w3 v.ownBlock) (hv : v'.ownBlock = v.ownBlock ∨ v'.ownBlock = some w2.heap.size) :
    AppInv rep sz E base w3 v' (ds ++ [d]) := by
  have hlow : ∀ x ∈ f, v.ownBlock ≠ some x := fun x hx he => by
    obtain ⟨_, _, ho, _⟩ := h
    have := (ho.lt x he).2
    have := (hfr.within x hx).1
    omega
  obtain ⟨css, fps, ho', hrs', hw0, hn, hu'⟩ := h
  have hb12 : Below w.heap.size w w2 := hb1.trans (hb2.mono hb1.size)
  have hw := hw0.wide (Nat.le_refl _) hb12.size
  have hrs := hrs'.same hF (w' := w2) (fun x hx => hb12.block x (hw0 x hx).2)
  have hu : ∀ b ∈ fps.flatten, Unf w2 b ∧ v.ownBlock ≠ some b := fun b hb => ⟨(hu' b hb).1.same (hb12.block b (hw0 b hb).2), (hu' b hb).2⟩
  have ho : w2.ownsRow base E sz v ds.length css.flatten := by
    obtain ⟨hl, h | ⟨g, cap, cur, rfl, hb, hh, r⟩⟩ := ho'
    · exact ⟨hl, .inl h⟩
    · exact ⟨hl, .inr ⟨g, cap, cur, rfl, hb, (hb12.block g (heap_lt hh)).trans hh, r⟩⟩
  have k3 : ∀ x, x < w2.heap.size → v.ownBlock ≠ some x → w3.heap[x]? = w2.heap[x]? := fun x hx hne => hg.block x hx (fun e => hne e.symm)
  have s1 : SameOn fps.flatten w2 w3 := fun x hx => k3 x (hw x hx).2 (hu x hx).2
  have s2 : SameOn f w1 w3 := fun x hx => (k3 x (Nat.lt_of_lt_of_le (hfr.within x hx).2 hb2.size) (hlow x hx)).trans (hb2.block x (hfr.within x hx).2)
  refine ⟨css ++ [cs], fps ++ [f], ?_, (hrs.same hF s1).snoc (hF _ _ _ _ _ hr s2) hl, ?_, ?_, ?_⟩
  · rw [List.flatten_append, List.flatten_singleton, List.length_append, List.length_singleton]; exact hown css ho
  · rw [List.flatten_append, List.flatten_singleton]
    exact (hw.wide (Nat.le_refl _) hg.size).app (hfr.within.wide hbase (Nat.le_trans hb2.size hg.size))
  · rw [List.flatten_append, List.flatten_singleton]
    refine List.nodup_append.2 ⟨hn, hfr.nodup, fun x hx y hy e => ?_⟩
    subst e
    have := (hw0 x hx).2
    have := (hfr.within x hy).1
    omega
  · rw [List.flatten_append, List.flatten_singleton]
    intro x hx
    rcases List.mem_append.1 hx with hx | hx
    · refine ⟨(hu x hx).1.same (s1 x hx), fun he => ?_⟩
      rcases hv with hv | hv
      · exact (hu x hx).2 (hv ▸ he)
      · rw [hv] at he; injection he with he; have := (hw x hx).2; omega
    · refine ⟨(hfr.unf x hx).same (s2 x hx), fun he => ?_⟩
      rcases hv with hv | hv
      · exact hlow x hx (hv ▸ he)
      · rw [hv] at he; injection he with he; have := (hfr.within x hx).2; have := hb2.size; omega

theorem AppInv.done {α : Type} {rep : World → List Nat → List Value → α → Prop} {sz : Nat} {E : TypeId} {base : Nat} {w : World} {v : Value} {ds : List α} (h : AppInv rep sz E base w v ds) :
    ∃ fp A c, v = .slice A ds.length c ∧ SlOf rep sz w fp (.slice A ds.length c) ds ∧ FreshAt base w.heap.size w fp := by
  obtain ⟨css, fps, ho, hr, hw, hn, hu⟩ := h
  obtain ⟨A, c, fp, rfl, hs, hw0, hn0, hu0, hob⟩ := own_sl ho
  refine ⟨fp ++ fps.flatten, A, c, rfl, ⟨css, fps, fp, rfl, hs, hr⟩, hw0.app hw, List.nodup_append.2 ⟨hn0, hn, fun x hx y hy e => ?_⟩, fun b hb => ?_⟩
  · subst e
    exact (hu x hy).2 (hob x hx)
  · rcases List.mem_append.1 hb with hb | hb
    · exact hu0 b hb
    · exact (hu b hb).1

theorem flatMap_len {α : Type} {enc : α → List Value} {k : Nat} (h : ∀ x, (enc x).length = k) (xs : List α) : (xs.flatMap enc).length = xs.length * k := by
  induction xs with
  | nil => simp
  | cons a r ih => rw [List.flatMap_cons, List.length_append, h, ih, List.length_cons, Nat.succ_mul]; omega
theorem infoc_Bool : (Tryz.prog.info? 4).map (fun i => (i.zero, i.size, i.bytes)) = some (some (.bool false), 1, 1) := by kernel_rfl
set_option maxRecDepth 100000 in
set_option maxHeartbeats 1000000 in
theorem cloneBool_any (w : World) (A : Option Addr) (n c : Nat) (f : List Nat) (xs : List Bool) (hx : S_BoolS w f (.slice A n c) xs) (hf : Within f 0 w.heap.size) (hn : n ≤ 1048576) :
    Calls Tryz.prog 98 #[.slice A n c] w fun e w' => ∃ fp A' c', e = .returned (.slice A' xs.length c') ∧ S_BoolS w' fp (.slice A' xs.length c') xs ∧ Fresh w w' fp ∧ Below w.heap.size w w' := by
  obtain ⟨e1, b1, _⟩ := SlOf.n_eq hx
  have hU := SlOf.un_flat hx
  rw [← e1] at hU
  have flat_len : (xs.flatMap enc_Bool).length = n * 1 := by rw [e1]; exact flatMap_len (enc := enc_Bool) (fun _ => rfl) xs
  have flat_one : ∀ u ∈ xs.flatMap enc_Bool, u.oneCell' = true := by
    intro u hu
    obtain ⟨x, _, hx⟩ := List.mem_flatMap.1 hu
    simp [enc_Bool] at hx
    rcases hx with rfl <;> rfl
  obtain ⟨i0, hi, hz0, hz1, hz2⟩ := info_parts infoc_Bool
  replace e1 := Lib.hid e1
  replace flat_len := Lib.hid flat_len
  replace flat_one := Lib.hid flat_one
  have hnil := fun (wx : World) => Lib.run_eql_slice_nil (P := Tryz.prog) wx 67 4 A n c 0 0 Tryz.underlying67
  cases A with
  | none =>
    have h0 : n = 0 := by
      obtain ⟨A', c', hv, _, _, hc⟩ := hU
      simp only [Value.slice.injEq] at hv
      obtain ⟨rfl, _, rfl⟩ := hv
      rcases hc with ⟨_, h⟩ | ⟨b, o, _, h, _⟩
      · exact h
      · cases h
    subst h0
    go_enter Tryz.func98, Tryz.ntmps98
    go_wp2_with fail
    go_ret
    have hxs : xs = [] := List.eq_nil_of_length_eq_zero (by rw [← e1.out])
    subst hxs
    exact ⟨[], none, 0, rfl, SlOf.nil _ _ _, Fresh.nil _ _, Below.refl _ _⟩
  | some ad =>
    go_enter Tryz.func98, Tryz.ntmps98
    go_wp2_with (at_builtin; refine wpList_append_sl rfl _ _ 67 rfl w.heap.size 4 i0 (.bool false) 1 1 Tryz.underlying67 hi hz0 hz1 hz2 rfl (by decide) _ 0 [] rfl (own_empty w 4 1 (by decide)) f _ n c (xs.flatMap enc_Bool) rfl ?_ ?_ ?_ ?_ ?_ ?_ ?_)
    · exact (Sl.same (w := w) hU (SameOn.below hf ((Below.refl _ _).alloc (Nat.le_refl _) _) (Nat.le_refl _)))
    · exact flat_len.out
    · exact flat_one.out
    · simp only [maxLen]; omega
    · omega
    · simp
    intro v' w1 hown hg _
    obtain ⟨A', c', fp, rfl, hsl, hw, hnd, hun, _⟩ := own_sl hown
    try rw [Nat.zero_add] at hsl
    have hbel : Below w.heap.size w w1 := ((Below.refl _ _).alloc (Nat.le_refl _) _).grown hg (by simp) (fun k hk => by simp [Value.ownBlock] at hk; omega)
    have e1' := e1.out
    have hfin : S_BoolS w1 fp (.slice A' n c') xs := SlOf.mk_flat (fun d _ => rfl) (by rw [← e1']; simpa using hsl)
    clear e1'
    go_wp2_with fail
    go_ret
    rw [← e1.out]
    exact ⟨fp, A', c', by simp, hfin, ⟨hw, hnd, hun⟩, hbel⟩

theorem infoc_Int64 : (Tryz.prog.info? 2).map (fun i => (i.zero, i.size, i.bytes)) = some (some (.int .i64 0), 1, 8) := by kernel_rfl
set_option maxRecDepth 100000 in
set_option maxHeartbeats 1000000 in
theorem cloneInt64_any (w : World) (A : Option Addr) (n c : Nat) (f : List Nat) (xs : List Int) (hx : S_Int64S w f (.slice A n c) xs) (hf : Within f 0 w.heap.size) (hn : n ≤ 1048576) :
    Calls Tryz.prog 149 #[.slice A n c] w fun e w' => ∃ fp A' c', e = .returned (.slice A' xs.length c') ∧ S_Int64S w' fp (.slice A' xs.length c') xs ∧ Fresh w w' fp ∧ Below w.heap.size w w' := by
  obtain ⟨e1, b1, _⟩ := SlOf.n_eq hx
  have hU := SlOf.un_flat hx
  rw [← e1] at hU
  have flat_len : (xs.flatMap enc_Int64).length = n * 1 := by rw [e1]; exact flatMap_len (enc := enc_Int64) (fun _ => rfl) xs
  have flat_one : ∀ u ∈ xs.flatMap enc_Int64, u.oneCell' = true := by
    intro u hu
    obtain ⟨x, _, hx⟩ := List.mem_flatMap.1 hu
    simp [enc_Int64] at hx
    rcases hx with rfl <;> rfl
  obtain ⟨i0, hi, hz0, hz1, hz2⟩ := info_parts infoc_Int64
  replace e1 := Lib.hid e1
  replace flat_len := Lib.hid flat_len
  replace flat_one := Lib.hid flat_one
  have hnil := fun (wx : World) => Lib.run_eql_slice_nil (P := Tryz.prog) wx 57 2 A n c 0 0 Tryz.underlying57
  cases A with
  | none =>
    have h0 : n = 0 := by
      obtain ⟨A', c', hv, _, _, hc⟩ := hU
      simp only [Value.slice.injEq] at hv
      obtain ⟨rfl, _, rfl⟩ := hv
      rcases hc with ⟨_, h⟩ | ⟨b, o, _, h, _⟩
      · exact h
      · cases h
    subst h0
    go_enter Tryz.func149, Tryz.ntmps149
    go_wp2_with fail
    go_ret
    have hxs : xs = [] := List.eq_nil_of_length_eq_zero (by rw [← e1.out])
    subst hxs
    exact ⟨[], none, 0, rfl, SlOf.nil _ _ _, Fresh.nil _ _, Below.refl _ _⟩
  | some ad =>
    go_enter Tryz.func149, Tryz.ntmps149
    go_wp2_with (at_builtin; refine wpList_append_sl rfl _ _ 57 rfl w.heap.size 2 i0 (.int .i64 0) 1 8 Tryz.underlying57 hi hz0 hz1 hz2 rfl (by decide) _ 0 [] rfl (own_empty w 2 1 (by decide)) f _ n c (xs.flatMap enc_Int64) rfl ?_ ?_ ?_ ?_ ?_ ?_ ?_)
    · exact (Sl.same (w := w) hU (SameOn.below hf ((Below.refl _ _).alloc (Nat.le_refl _) _) (Nat.le_refl _)))
    · exact flat_len.out
    · exact flat_one.out
    · simp only [maxLen]; omega
    · omega
    · simp
    intro v' w1 hown hg _
    obtain ⟨A', c', fp, rfl, hsl, hw, hnd, hun, _⟩ := own_sl hown
    try rw [Nat.zero_add] at hsl
    have hbel : Below w.heap.size w w1 := ((Below.refl _ _).alloc (Nat.le_refl _) _).grown hg (by simp) (fun k hk => by simp [Value.ownBlock] at hk; omega)
    have e1' := e1.out
    have hfin : S_Int64S w1 fp (.slice A' n c') xs := SlOf.mk_flat (fun d _ => rfl) (by rw [← e1']; simpa using hsl)
    clear e1'
    go_wp2_with fail
    go_ret
    rw [← e1.out]
    exact ⟨fp, A', c', by simp, hfin, ⟨hw, hnd, hun⟩, hbel⟩

theorem infoc_Glue : (Tryz.prog.info? 116).map (fun i => (i.zero, i.size, i.bytes)) = some (some (.agg #[.string ⟨#[]⟩, .int .i64 0]), 2, 24) := by kernel_rfl
set_option maxRecDepth 100000 in
set_option maxHeartbeats 1000000 in
theorem cloneGlue_any (w : World) (A : Option Addr) (n c : Nat) (f : List Nat) (xs : List D_Glue) (hx : S_GlueS w f (.slice A n c) xs) (hf : Within f 0 w.heap.size) (hn : n ≤ 1048576) :
    Calls Tryz.prog 148 #[.slice A n c] w fun e w' => ∃ fp A' c', e = .returned (.slice A' xs.length c') ∧ S_GlueS w' fp (.slice A' xs.length c') xs ∧ Fresh w w' fp ∧ Below w.heap.size w w' := by
  obtain ⟨e1, b1, _⟩ := SlOf.n_eq hx
  have hU := SlOf.un_flat hx
  rw [← e1] at hU
  have flat_len : (xs.flatMap enc_Glue).length = n * 2 := by rw [e1]; exact flatMap_len (enc := enc_Glue) (fun _ => rfl) xs
  have flat_one : ∀ u ∈ xs.flatMap enc_Glue, u.oneCell' = true := by
    intro u hu
    obtain ⟨x, _, hx⟩ := List.mem_flatMap.1 hu
    simp [enc_Glue] at hx
    rcases hx with rfl | rfl <;> rfl
  obtain ⟨i0, hi, hz0, hz1, hz2⟩ := info_parts infoc_Glue
  replace e1 := Lib.hid e1
  replace flat_len := Lib.hid flat_len
  replace flat_one := Lib.hid flat_one
  have hnil := fun (wx : World) => Lib.run_eql_slice_nil (P := Tryz.prog) wx 32 116 A n c 0 0 Tryz.underlying32
  cases A with
  | none =>
    have h0 : n = 0 := by
      obtain ⟨A', c', hv, _, _, hc⟩ := hU
      simp only [Value.slice.injEq] at hv
      obtain ⟨rfl, _, rfl⟩ := hv
      rcases hc with ⟨_, h⟩ | ⟨b, o, _, h, _⟩
      · exact h
      · cases h
    subst h0
    go_enter Tryz.func148, Tryz.ntmps148
    go_wp2_with fail
    go_ret
    have hxs : xs = [] := List.eq_nil_of_length_eq_zero (by rw [← e1.out])
    subst hxs
    exact ⟨[], none, 0, rfl, SlOf.nil _ _ _, Fresh.nil _ _, Below.refl _ _⟩
  | some ad =>
    go_enter Tryz.func148, Tryz.ntmps148
    go_wp2_with (at_builtin; refine wpList_append_sl rfl _ _ 32 rfl w.heap.size 116 i0 (.agg #[.string ⟨#[]⟩, .int .i64 0]) 2 24 Tryz.underlying32 hi hz0 hz1 hz2 rfl (by decide) _ 0 [] rfl (own_empty w 116 2 (by decide)) f _ n c (xs.flatMap enc_Glue) rfl ?_ ?_ ?_ ?_ ?_ ?_ ?_)
    · exact (Sl.same (w := w) hU (SameOn.below hf ((Below.refl _ _).alloc (Nat.le_refl _) _) (Nat.le_refl _)))
    · exact flat_len.out
    · exact flat_one.out
    · simp only [maxLen]; omega
    · omega
    · simp
    intro v' w1 hown hg _
    obtain ⟨A', c', fp, rfl, hsl, hw, hnd, hun, _⟩ := own_sl hown
    try rw [Nat.zero_add] at hsl
    have hbel : Below w.heap.size w w1 := ((Below.refl _ _).alloc (Nat.le_refl _) _).grown hg (by simp) (fun k hk => by simp [Value.ownBlock] at hk; omega)
    have e1' := e1.out
    have hfin : S_GlueS w1 fp (.slice A' n c') xs := SlOf.mk_flat (fun d _ => rfl) (by rw [← e1']; simpa using hsl)
    clear e1'
    go_wp2_with fail
    go_ret
    rw [← e1.out]
    exact ⟨fp, A', c', by simp, hfin, ⟨hw, hnd, hun⟩, hbel⟩

def S_PointS := SlOf R_Point 2
theorem S_PointS.same {w w' : World} {f : List Nat} {v : Value} {xs} (h : S_PointS w f v xs) (hs : SameOn f w w') : S_PointS w' f v xs := SlOf.same R_Point.framed h hs
theorem S_PointS.kb {w w' : World} {f : List Nat} {v : Value} {xs} {B : Nat} (h : S_PointS w f v xs) (hf : Within f 0 B) (hb : Below B w w') : S_PointS w' f v xs := h.same (SameOn.below hf hb (Nat.le_refl _))
end Go.Proofs.YtpbniieiinhliaaGreat
