/- The helpers that count the size of an argument. Printed by a program. -/
import Derived.Test.YtpbniieiinhliaaGreatRnD
import Derived.Test.YtpbniieiinhliaaGreatChecked
set_option linter.unusedVariables false
set_option linter.unusedSimpArgs false
namespace Go.Proofs.YtpbniieiinhliaaGreat
open Go.RowKit


def szR (n : Nat) (l : Int) : Int := if (n : Int) ≤ l then l - n else -1
theorem szR_cases (n : Nat) (l : Int) : (szR n l = l - n ∧ (n : Int) ≤ l) ∨ (szR n l = -1 ∧ l < (n : Int)) := by
  unfold szR; by_cases h : (n : Int) ≤ l
  · exact .inl ⟨if_pos h, h⟩
  · exact .inr ⟨if_neg h, by omega⟩
theorem szR_yes {n : Nat} {l : Int} (h : (n : Int) ≤ l) : szR n l = l - n := if_pos h
theorem szR_no {n : Nat} {l : Int} (h : l < (n : Int)) : szR n l = -1 := if_neg (by omega)
theorem sum_take {α : Type} (f : α → Nat) {xs : List α} {k : Nat} (hk : k < xs.length) : ((xs.take (k + 1)).map f).sum = ((xs.take k).map f).sum + f xs[k] := by
  rw [List.take_succ_eq_append_getElem hk, List.map_append, List.sum_append]; simp
theorem sum_take_le {α : Type} (f : α → Nat) (xs : List α) (k : Nat) : ((xs.take k).map f).sum ≤ (xs.map f).sum := by
  conv => rhs; rw [← List.take_append_drop k xs]
  rw [List.map_append, List.sum_append]; omega

def wt_BoolS (xs : List Bool) : Nat := xs.length
def wt_FireS (xs : List D_Fire) : Nat := xs.length
def wt_Glue (d : D_Glue) : Nat := (d.g_Name).size
def wt_GlueS (xs : List D_Glue) : Nat := xs.length + (xs.map fun d => wt_Glue d).sum
def wt_Int64S (xs : List Int) : Nat := xs.length
def wt_SignalCell (d : D_SignalCell) : Nat := wt_BoolS (d.g_On) + (wt_BoolS (d.g_Bound) + (wt_BoolS (d.g_Fired)))
def wt_SignalCellS (xs : List D_SignalCell) : Nat := xs.length + (xs.map fun d => wt_SignalCell d).sum
def wt_SignalTile (d : D_SignalTile) : Nat := (d.g_Name).size + (wt_Int64S (d.g_Sides) + (wt_BoolS (d.g_On) + (wt_FireS (d.g_Fires))))
def wt_SignalTileS (xs : List D_SignalTile) : Nat := xs.length + (xs.map fun d => wt_SignalTile d).sum
def wt_SignalSet (d : D_SignalSet) : Nat := wt_GlueS (d.g_Glues) + (wt_SignalTileS (d.g_Tiles))
def Ok_Glue (d : D_Glue) : Prop := (d.g_Name).size ≤ 9223372036854775807
def Ok_GlueS (xs : List D_Glue) : Prop := ∀ d ∈ xs, Ok_Glue (d)
def Ok_SignalTile (d : D_SignalTile) : Prop := (d.g_Name).size ≤ 9223372036854775807
def Ok_SignalTileS (xs : List D_SignalTile) : Prop := ∀ d ∈ xs, Ok_SignalTile (d)
def Ok_SignalSet (d : D_SignalSet) : Prop := Ok_GlueS (d.g_Glues) ∧ Ok_SignalTileS (d.g_Tiles)
set_option maxRecDepth 100000 in
set_option maxHeartbeats 1000000 in
theorem szBoolS_any (w : World) (A : Option Addr) (n c : Nat) (f : List Nat) (xs : List Bool) (left : Int) (hx : S_BoolS w f (.slice A n c) xs) (hf : Within f 0 w.heap.size) (hL0 : 0 ≤ left) (hL1 : left ≤ 1048576) :
    Calls Tryz.prog 61 #[.slice A n c, .int .i64 left] w fun e w' => e = .returned (.int .i64 (szR (wt_BoolS xs) left)) ∧ Below w.heap.size w w' := by
  obtain ⟨e1, b1, _⟩ := SlOf.n_eq hx
  have ew : wt_BoolS xs = n := e1.symm
  replace ew := Lib.hid ew
  replace e1 := Lib.hid e1
  rcases szR_cases n left with ⟨hr, hc⟩ | ⟨hr, hc⟩
  · replace hr := Lib.hid hr
    go_enter Tryz.func61, Tryz.ntmps61
    go_wp2_with fail
    go_ret
    exact ⟨ret_i (by rw [ew.out, hr.out]), Below.refl _ _⟩
  · replace hr := Lib.hid hr
    go_enter Tryz.func61, Tryz.ntmps61
    go_wp2_with fail
    go_ret
    exact ⟨ret_i (by rw [ew.out, hr.out]), Below.refl _ _⟩

set_option maxRecDepth 100000 in
set_option maxHeartbeats 1000000 in
theorem szFireS_any (w : World) (A : Option Addr) (n c : Nat) (f : List Nat) (xs : List D_Fire) (left : Int) (hx : S_FireS w f (.slice A n c) xs) (hf : Within f 0 w.heap.size) (hL0 : 0 ≤ left) (hL1 : left ≤ 1048576) :
    Calls Tryz.prog 101 #[.slice A n c, .int .i64 left] w fun e w' => e = .returned (.int .i64 (szR (wt_FireS xs) left)) ∧ Below w.heap.size w w' := by
  obtain ⟨e1, b1, _⟩ := SlOf.n_eq hx
  have ew : wt_FireS xs = n := e1.symm
  replace ew := Lib.hid ew
  replace e1 := Lib.hid e1
  rcases szR_cases n left with ⟨hr, hc⟩ | ⟨hr, hc⟩
  · replace hr := Lib.hid hr
    go_enter Tryz.func101, Tryz.ntmps101
    go_wp2_with fail
    go_ret
    exact ⟨ret_i (by rw [ew.out, hr.out]), Below.refl _ _⟩
  · replace hr := Lib.hid hr
    go_enter Tryz.func101, Tryz.ntmps101
    go_wp2_with fail
    go_ret
    exact ⟨ret_i (by rw [ew.out, hr.out]), Below.refl _ _⟩

set_option maxRecDepth 100000 in
set_option maxHeartbeats 1000000 in
theorem szGlue_any (w : World) (d : D_Glue) (left : Int) (hL0 : 0 ≤ left) (hL1 : left ≤ 1048576) (ok : Ok_Glue d) :
    Calls Tryz.prog 59 #[.agg #[.string d.g_Name, .int .i64 d.g_Strength], .int .i64 left] w fun e w' => e = .returned (.int .i64 (szR (wt_Glue d) left)) ∧ Below w.heap.size w w' := by
  have ok0 := ok
  clear ok
  unfold Ok_Glue at ok0
  have ew : wt_Glue d = (d.g_Name).size := rfl
  replace ew := Lib.hid ew
  have hb : Below w.heap.size w (w.alloc (.cells #[.string d.g_Name, .int .i64 d.g_Strength] 104)) := (Below.refl _ _).alloc (Nat.le_refl _) _
  go_enter Tryz.func59, Tryz.ntmps59
  by_cases q0 : (((d.g_Name).size : Nat) : Int) ≤ left
  · go_wp2_with fail
    go_ret
    exact ⟨ret_i (by rw [ew.out, szR_yes (by omega)] <;> omega), hb⟩
  · go_wp2_with fail
    go_ret
    exact ⟨ret_i (by rw [ew.out, szR_no (by omega)]), hb⟩

set_option maxRecDepth 100000 in
set_option maxHeartbeats 1000000 in
theorem szGlueS_any (w : World) (A : Option Addr) (n c : Nat) (f : List Nat) (xs : List D_Glue) (left : Int) (hx : S_GlueS w f (.slice A n c) xs) (hf : Within f 0 w.heap.size) (hL0 : 0 ≤ left) (hL1 : left ≤ 1048576) (ok : Ok_GlueS xs) :
    Calls Tryz.prog 28 #[.slice A n c, .int .i64 left] w fun e w' => e = .returned (.int .i64 (szR (wt_GlueS xs) left)) ∧ Below w.heap.size w w' := by
  obtain ⟨e1, b1, _⟩ := SlOf.n_eq hx
  have ew : wt_GlueS xs = n + (xs.map wt_Glue).sum := by rw [e1]; rfl
  replace ew := Lib.hid ew
  replace e1 := Lib.hid e1
  by_cases hfit : (n : Int) ≤ left
  · go_enter Tryz.func28, Tryz.ntmps28
    go_wp2_with fail
    go_loopw [5, 1] (fun i l wr => ∃ (k : Nat) (m : Int), k ≤ n ∧ i = .int .i64 k ∧ l = .int .i64 m ∧ 0 ≤ m ∧ Hid (m = left - n - (((xs.take k).map wt_Glue).sum : Nat)) ∧ Below w.heap.size w wr) (fun i _ _ => n - (intOf i).toNat)
    case atStart => exact ⟨0, left - n, Nat.zero_le _, rfl, rfl, by omega, Lib.hid (by simp), Below.refl _ _⟩
    case round =>
      obtain ⟨k, m, hk, rfl, rfl, hm, hs, hb⟩ := hrel
      have hm1 : m ≤ 1048576 := by have := hs.out; omega
      by_cases hlt : k < n
      · obtain ⟨b, o, rfl, _, q0, q1⟩ := (hx.kb hf hb).at_ k (by have := e1.out; omega)
        go_wp2_with fail
        refine (szGlue_any wr xs[k] _ (by omega) (by omega) (ok _ (List.getElem_mem _))).mono ?_
        rintro e w1 ⟨rfl, hb1⟩
        have hb2 : Below w.heap.size w w1 := hb.trans (hb1.mono hb.size)
        have hst := Lib.hid (sum_take wt_Glue (show k < xs.length by have := e1.out; omega))
        have hle := Lib.hid (sum_take_le wt_Glue xs (k + 1))
        rcases szR_cases (wt_Glue xs[k]) m with ⟨hr, hc⟩ | ⟨hr, hc⟩
        · rw [hr]; clear hr
          go_wp2_with fail
          go_roundw
          case rel => exact ⟨k + 1, _, by omega, by go_num, rfl, by omega, Lib.hid (by have := hs.out; have := hst.out; omega), hb2⟩
          case measure => simp [intOf]; omega
        · rw [hr]; clear hr
          go_wp2_with fail
          go_ret
          exact ⟨ret_i (by rw [ew.out, szR_no (by have := hs.out; have := hst.out; have := hle.out; omega)]), hb2⟩
      · go_wp2_with fail
        go_ret
        refine ⟨ret_i ?_, hb⟩
        have h2 := hs.out
        rw [List.take_of_length_le (by have := e1.out; omega)] at h2
        rw [ew.out, szR_yes (by omega)] <;> omega
  · go_enter Tryz.func28, Tryz.ntmps28
    go_wp2_with fail
    go_ret
    exact ⟨ret_i (by rw [ew.out, szR_no (by omega)]), Below.refl _ _⟩

set_option maxRecDepth 100000 in
set_option maxHeartbeats 1000000 in
theorem szInt64S_any (w : World) (A : Option Addr) (n c : Nat) (f : List Nat) (xs : List Int) (left : Int) (hx : S_Int64S w f (.slice A n c) xs) (hf : Within f 0 w.heap.size) (hL0 : 0 ≤ left) (hL1 : left ≤ 1048576) :
    Calls Tryz.prog 100 #[.slice A n c, .int .i64 left] w fun e w' => e = .returned (.int .i64 (szR (wt_Int64S xs) left)) ∧ Below w.heap.size w w' := by
  obtain ⟨e1, b1, _⟩ := SlOf.n_eq hx
  have ew : wt_Int64S xs = n := e1.symm
  replace ew := Lib.hid ew
  replace e1 := Lib.hid e1
  rcases szR_cases n left with ⟨hr, hc⟩ | ⟨hr, hc⟩
  · replace hr := Lib.hid hr
    go_enter Tryz.func100, Tryz.ntmps100
    go_wp2_with fail
    go_ret
    exact ⟨ret_i (by rw [ew.out, hr.out]), Below.refl _ _⟩
  · replace hr := Lib.hid hr
    go_enter Tryz.func100, Tryz.ntmps100
    go_wp2_with fail
    go_ret
    exact ⟨ret_i (by rw [ew.out, hr.out]), Below.refl _ _⟩

set_option maxRecDepth 100000 in
set_option maxHeartbeats 1000000 in
theorem szSignalCell_any (w : World) (d : D_SignalCell) (left : Int) (A3 : Option Addr) (n3 c3 : Nat) (f3 : List Nat) (h3 : S_BoolS w f3 (.slice A3 n3 c3) d.g_On) (k3 : Within f3 0 w.heap.size) (A4 : Option Addr) (n4 c4 : Nat) (f4 : List Nat) (h4 : S_BoolS w f4 (.slice A4 n4 c4) d.g_Bound) (k4 : Within f4 0 w.heap.size) (A5 : Option Addr) (n5 c5 : Nat) (f5 : List Nat) (h5 : S_BoolS w f5 (.slice A5 n5 c5) d.g_Fired) (k5 : Within f5 0 w.heap.size) (hL0 : 0 ≤ left) (hL1 : left ≤ 1048576) :
    Calls Tryz.prog 30 #[.agg #[.int .i64 d.g_At.g_X, .int .i64 d.g_At.g_Y, .int .i64 d.g_Tile, .slice A3 n3 c3, .slice A4 n4 c4, .slice A5 n5 c5], .int .i64 left] w fun e w' => e = .returned (.int .i64 (szR (wt_SignalCell d) left)) ∧ Below w.heap.size w w' := by
  obtain ⟨e3, b3, _⟩ := SlOf.n_eq h3
  replace e3 := Lib.hid e3
  obtain ⟨e4, b4, _⟩ := SlOf.n_eq h4
  replace e4 := Lib.hid e4
  obtain ⟨e5, b5, _⟩ := SlOf.n_eq h5
  replace e5 := Lib.hid e5
  have ew : wt_SignalCell d = wt_BoolS (d.g_On) + (wt_BoolS (d.g_Bound) + (wt_BoolS (d.g_Fired))) := rfl
  replace ew := Lib.hid ew
  have hb : Below w.heap.size w (w.alloc (.cells #[.int .i64 d.g_At.g_X, .int .i64 d.g_At.g_Y, .int .i64 d.g_Tile, .slice A3 n3 c3, .slice A4 n4 c4, .slice A5 n5 c5] 69)) := (Below.refl _ _).alloc (Nat.le_refl _) _
  go_enter Tryz.func30, Tryz.ntmps30
  go_wp2_with fail
  refine (szBoolS_any _ _ _ _ f3 _ _ (h3.kb k3 hb) (k3.wide (Nat.le_refl _) hb.size) (by omega) (by omega)).mono ?_
  rintro e w1 ⟨rfl, z0⟩
  have y0 := hb.trans (z0.mono hb.size)
  have r0 := fun o => z0.cell (p := ⟨w.heap.size, o, none⟩) (by first | (simp; done) | exact S0)
  have S0 : w.heap.size < w1.heap.size := Nat.lt_of_lt_of_le (by first | (simp; done) | exact S0) z0.size
  rcases szR_cases (wt_BoolS (d.g_On)) (left) with ⟨hr, q0⟩ | ⟨hr, q0⟩
  · rw [hr]; clear hr
    go_wp2_with fail
    refine (szBoolS_any _ _ _ _ f4 _ _ (h4.kb k4 y0) (k4.wide (Nat.le_refl _) y0.size) (by omega) (by omega)).mono ?_
    rintro e w2 ⟨rfl, z1⟩
    have y1 := y0.trans (z1.mono y0.size)
    have r1 := fun o => z1.cell (p := ⟨w.heap.size, o, none⟩) (by first | (simp; done) | exact S0)
    have S0 : w.heap.size < w2.heap.size := Nat.lt_of_lt_of_le (by first | (simp; done) | exact S0) z1.size
    rcases szR_cases (wt_BoolS (d.g_Bound)) (left - ((wt_BoolS (d.g_On) : Nat) : Int)) with ⟨hr, q1⟩ | ⟨hr, q1⟩
    · rw [hr]; clear hr
      go_wp2_with fail
      refine (szBoolS_any _ _ _ _ f5 _ _ (h5.kb k5 y1) (k5.wide (Nat.le_refl _) y1.size) (by omega) (by omega)).mono ?_
      rintro e w3 ⟨rfl, z2⟩
      have y2 := y1.trans (z2.mono y1.size)
      have r2 := fun o => z2.cell (p := ⟨w.heap.size, o, none⟩) (by first | (simp; done) | exact S0)
      have S0 : w.heap.size < w3.heap.size := Nat.lt_of_lt_of_le (by first | (simp; done) | exact S0) z2.size
      rcases szR_cases (wt_BoolS (d.g_Fired)) (left - ((wt_BoolS (d.g_On) : Nat) : Int) - ((wt_BoolS (d.g_Bound) : Nat) : Int)) with ⟨hr, q2⟩ | ⟨hr, q2⟩
      · rw [hr]; clear hr
        go_wp2_with fail
        go_ret
        exact ⟨ret_i (by rw [ew.out, szR_yes (by omega)] <;> omega), y2⟩
      · rw [hr]; clear hr
        go_wp2_with fail
        go_ret
        exact ⟨ret_i (by rw [ew.out, szR_no (by omega)]), y2⟩
    · rw [hr]; clear hr
      go_wp2_with fail
      go_ret
      exact ⟨ret_i (by rw [ew.out, szR_no (by omega)]), y1⟩
  · rw [hr]; clear hr
    go_wp2_with fail
    go_ret
    exact ⟨ret_i (by rw [ew.out, szR_no (by omega)]), y0⟩

set_option maxRecDepth 100000 in
set_option maxHeartbeats 1000000 in
theorem szSignalCellS_any (w : World) (A : Option Addr) (n c : Nat) (f : List Nat) (xs : List D_SignalCell) (left : Int) (hx : S_SignalCellS w f (.slice A n c) xs) (hf : Within f 0 w.heap.size) (hL0 : 0 ≤ left) (hL1 : left ≤ 1048576) :
    Calls Tryz.prog 7 #[.slice A n c, .int .i64 left] w fun e w' => e = .returned (.int .i64 (szR (wt_SignalCellS xs) left)) ∧ Below w.heap.size w w' := by
  obtain ⟨e1, b1, _⟩ := SlOf.n_eq hx
  have ew : wt_SignalCellS xs = n + (xs.map wt_SignalCell).sum := by rw [e1]; rfl
  replace ew := Lib.hid ew
  replace e1 := Lib.hid e1
  by_cases hfit : (n : Int) ≤ left
  · go_enter Tryz.func7, Tryz.ntmps7
    go_wp2_with fail
    go_loopw [5, 1] (fun i l wr => ∃ (k : Nat) (m : Int), k ≤ n ∧ i = .int .i64 k ∧ l = .int .i64 m ∧ 0 ≤ m ∧ Hid (m = left - n - (((xs.take k).map wt_SignalCell).sum : Nat)) ∧ Below w.heap.size w wr) (fun i _ _ => n - (intOf i).toNat)
    case atStart => exact ⟨0, left - n, Nat.zero_le _, rfl, rfl, by omega, Lib.hid (by simp), Below.refl _ _⟩
    case round =>
      obtain ⟨k, m, hk, rfl, rfl, hm, hs, hb⟩ := hrel
      have hm1 : m ≤ 1048576 := by have := hs.out; omega
      by_cases hlt : k < n
      · obtain ⟨b, o, A3, c3, f3, A4, c4, f4, A5, c5, f5, rfl, _, g3, g4, g5, q0, q1, q2, q3, q4, q5, s3, s4, s5⟩ := (hx.kb hf hb).at_ k (by have := e1.out; omega)
        go_wp2_with fail
        refine (szSignalCell_any wr xs[k] _ A3 _ c3 f3 s3 (fun x hx => ⟨Nat.zero_le _, Nat.lt_of_lt_of_le (hf x (g3 x hx)).2 hb.size⟩) A4 _ c4 f4 s4 (fun x hx => ⟨Nat.zero_le _, Nat.lt_of_lt_of_le (hf x (g4 x hx)).2 hb.size⟩) A5 _ c5 f5 s5 (fun x hx => ⟨Nat.zero_le _, Nat.lt_of_lt_of_le (hf x (g5 x hx)).2 hb.size⟩) (by omega) (by omega)).mono ?_
        rintro e w1 ⟨rfl, hb1⟩
        have hb2 : Below w.heap.size w w1 := hb.trans (hb1.mono hb.size)
        have hst := Lib.hid (sum_take wt_SignalCell (show k < xs.length by have := e1.out; omega))
        have hle := Lib.hid (sum_take_le wt_SignalCell xs (k + 1))
        rcases szR_cases (wt_SignalCell xs[k]) m with ⟨hr, hc⟩ | ⟨hr, hc⟩
        · rw [hr]; clear hr
          go_wp2_with fail
          go_roundw
          case rel => exact ⟨k + 1, _, by omega, by go_num, rfl, by omega, Lib.hid (by have := hs.out; have := hst.out; omega), hb2⟩
          case measure => simp [intOf]; omega
        · rw [hr]; clear hr
          go_wp2_with fail
          go_ret
          exact ⟨ret_i (by rw [ew.out, szR_no (by have := hs.out; have := hst.out; have := hle.out; omega)]), hb2⟩
      · go_wp2_with fail
        go_ret
        refine ⟨ret_i ?_, hb⟩
        have h2 := hs.out
        rw [List.take_of_length_le (by have := e1.out; omega)] at h2
        rw [ew.out, szR_yes (by omega)] <;> omega
  · go_enter Tryz.func7, Tryz.ntmps7
    go_wp2_with fail
    go_ret
    exact ⟨ret_i (by rw [ew.out, szR_no (by omega)]), Below.refl _ _⟩

set_option maxRecDepth 100000 in
set_option maxHeartbeats 1000000 in
theorem szSignalTile_any (w : World) (d : D_SignalTile) (left : Int) (A1 : Option Addr) (n1 c1 : Nat) (f1 : List Nat) (h1 : S_Int64S w f1 (.slice A1 n1 c1) d.g_Sides) (k1 : Within f1 0 w.heap.size) (A2 : Option Addr) (n2 c2 : Nat) (f2 : List Nat) (h2 : S_BoolS w f2 (.slice A2 n2 c2) d.g_On) (k2 : Within f2 0 w.heap.size) (A3 : Option Addr) (n3 c3 : Nat) (f3 : List Nat) (h3 : S_FireS w f3 (.slice A3 n3 c3) d.g_Fires) (k3 : Within f3 0 w.heap.size) (hL0 : 0 ≤ left) (hL1 : left ≤ 1048576) (ok : Ok_SignalTile d) :
    Calls Tryz.prog 60 #[.agg #[.string d.g_Name, .slice A1 n1 c1, .slice A2 n2 c2, .slice A3 n3 c3], .int .i64 left] w fun e w' => e = .returned (.int .i64 (szR (wt_SignalTile d) left)) ∧ Below w.heap.size w w' := by
  obtain ⟨e1, b1, _⟩ := SlOf.n_eq h1
  replace e1 := Lib.hid e1
  obtain ⟨e2, b2, _⟩ := SlOf.n_eq h2
  replace e2 := Lib.hid e2
  obtain ⟨e3, b3, _⟩ := SlOf.n_eq h3
  replace e3 := Lib.hid e3
  have ok0 := ok
  clear ok
  unfold Ok_SignalTile at ok0
  have ew : wt_SignalTile d = (d.g_Name).size + (wt_Int64S (d.g_Sides) + (wt_BoolS (d.g_On) + (wt_FireS (d.g_Fires)))) := rfl
  replace ew := Lib.hid ew
  have hb : Below w.heap.size w (w.alloc (.cells #[.string d.g_Name, .slice A1 n1 c1, .slice A2 n2 c2, .slice A3 n3 c3] 108)) := (Below.refl _ _).alloc (Nat.le_refl _) _
  go_enter Tryz.func60, Tryz.ntmps60
  by_cases q0 : (((d.g_Name).size : Nat) : Int) ≤ left
  · go_wp2_with fail
    refine (szInt64S_any _ _ _ _ f1 _ _ (h1.kb k1 hb) (k1.wide (Nat.le_refl _) hb.size) (by omega) (by omega)).mono ?_
    rintro e w2 ⟨rfl, z1⟩
    have y1 := hb.trans (z1.mono hb.size)
    have r1 := fun o => z1.cell (p := ⟨w.heap.size, o, none⟩) (by first | (simp; done) | exact S0)
    have S0 : w.heap.size < w2.heap.size := Nat.lt_of_lt_of_le (by first | (simp; done) | exact S0) z1.size
    rcases szR_cases (wt_Int64S (d.g_Sides)) (left - (((d.g_Name).size : Nat) : Int)) with ⟨hr, q1⟩ | ⟨hr, q1⟩
    · rw [hr]; clear hr
      go_wp2_with fail
      refine (szBoolS_any _ _ _ _ f2 _ _ (h2.kb k2 y1) (k2.wide (Nat.le_refl _) y1.size) (by omega) (by omega)).mono ?_
      rintro e w3 ⟨rfl, z2⟩
      have y2 := y1.trans (z2.mono y1.size)
      have r2 := fun o => z2.cell (p := ⟨w.heap.size, o, none⟩) (by first | (simp; done) | exact S0)
      have S0 : w.heap.size < w3.heap.size := Nat.lt_of_lt_of_le (by first | (simp; done) | exact S0) z2.size
      rcases szR_cases (wt_BoolS (d.g_On)) (left - (((d.g_Name).size : Nat) : Int) - ((wt_Int64S (d.g_Sides) : Nat) : Int)) with ⟨hr, q2⟩ | ⟨hr, q2⟩
      · rw [hr]; clear hr
        go_wp2_with fail
        refine (szFireS_any _ _ _ _ f3 _ _ (h3.kb k3 y2) (k3.wide (Nat.le_refl _) y2.size) (by omega) (by omega)).mono ?_
        rintro e w4 ⟨rfl, z3⟩
        have y3 := y2.trans (z3.mono y2.size)
        have r3 := fun o => z3.cell (p := ⟨w.heap.size, o, none⟩) (by first | (simp; done) | exact S0)
        have S0 : w.heap.size < w4.heap.size := Nat.lt_of_lt_of_le (by first | (simp; done) | exact S0) z3.size
        rcases szR_cases (wt_FireS (d.g_Fires)) (left - (((d.g_Name).size : Nat) : Int) - ((wt_Int64S (d.g_Sides) : Nat) : Int) - ((wt_BoolS (d.g_On) : Nat) : Int)) with ⟨hr, q3⟩ | ⟨hr, q3⟩
        · rw [hr]; clear hr
          go_wp2_with fail
          go_ret
          exact ⟨ret_i (by rw [ew.out, szR_yes (by omega)] <;> omega), y3⟩
        · rw [hr]; clear hr
          go_wp2_with fail
          go_ret
          exact ⟨ret_i (by rw [ew.out, szR_no (by omega)]), y3⟩
      · rw [hr]; clear hr
        go_wp2_with fail
        go_ret
        exact ⟨ret_i (by rw [ew.out, szR_no (by omega)]), y2⟩
    · rw [hr]; clear hr
      go_wp2_with fail
      go_ret
      exact ⟨ret_i (by rw [ew.out, szR_no (by omega)]), y1⟩
  · go_wp2_with fail
    go_ret
    exact ⟨ret_i (by rw [ew.out, szR_no (by omega)]), hb⟩

set_option maxRecDepth 100000 in
set_option maxHeartbeats 1000000 in
theorem szSignalTileS_any (w : World) (A : Option Addr) (n c : Nat) (f : List Nat) (xs : List D_SignalTile) (left : Int) (hx : S_SignalTileS w f (.slice A n c) xs) (hf : Within f 0 w.heap.size) (hL0 : 0 ≤ left) (hL1 : left ≤ 1048576) (ok : Ok_SignalTileS xs) :
    Calls Tryz.prog 29 #[.slice A n c, .int .i64 left] w fun e w' => e = .returned (.int .i64 (szR (wt_SignalTileS xs) left)) ∧ Below w.heap.size w w' := by
  obtain ⟨e1, b1, _⟩ := SlOf.n_eq hx
  have ew : wt_SignalTileS xs = n + (xs.map wt_SignalTile).sum := by rw [e1]; rfl
  replace ew := Lib.hid ew
  replace e1 := Lib.hid e1
  by_cases hfit : (n : Int) ≤ left
  · go_enter Tryz.func29, Tryz.ntmps29
    go_wp2_with fail
    go_loopw [5, 1] (fun i l wr => ∃ (k : Nat) (m : Int), k ≤ n ∧ i = .int .i64 k ∧ l = .int .i64 m ∧ 0 ≤ m ∧ Hid (m = left - n - (((xs.take k).map wt_SignalTile).sum : Nat)) ∧ Below w.heap.size w wr) (fun i _ _ => n - (intOf i).toNat)
    case atStart => exact ⟨0, left - n, Nat.zero_le _, rfl, rfl, by omega, Lib.hid (by simp), Below.refl _ _⟩
    case round =>
      obtain ⟨k, m, hk, rfl, rfl, hm, hs, hb⟩ := hrel
      have hm1 : m ≤ 1048576 := by have := hs.out; omega
      by_cases hlt : k < n
      · obtain ⟨b, o, A1, c1, f1, A2, c2, f2, A3, c3, f3, rfl, _, g1, g2, g3, q0, q1, q2, q3, s1, s2, s3⟩ := (hx.kb hf hb).at_ k (by have := e1.out; omega)
        go_wp2_with fail
        refine (szSignalTile_any wr xs[k] _ A1 _ c1 f1 s1 (fun x hx => ⟨Nat.zero_le _, Nat.lt_of_lt_of_le (hf x (g1 x hx)).2 hb.size⟩) A2 _ c2 f2 s2 (fun x hx => ⟨Nat.zero_le _, Nat.lt_of_lt_of_le (hf x (g2 x hx)).2 hb.size⟩) A3 _ c3 f3 s3 (fun x hx => ⟨Nat.zero_le _, Nat.lt_of_lt_of_le (hf x (g3 x hx)).2 hb.size⟩) (by omega) (by omega) (ok _ (List.getElem_mem _))).mono ?_
        rintro e w1 ⟨rfl, hb1⟩
        have hb2 : Below w.heap.size w w1 := hb.trans (hb1.mono hb.size)
        have hst := Lib.hid (sum_take wt_SignalTile (show k < xs.length by have := e1.out; omega))
        have hle := Lib.hid (sum_take_le wt_SignalTile xs (k + 1))
        rcases szR_cases (wt_SignalTile xs[k]) m with ⟨hr, hc⟩ | ⟨hr, hc⟩
        · rw [hr]; clear hr
          go_wp2_with fail
          go_roundw
          case rel => exact ⟨k + 1, _, by omega, by go_num, rfl, by omega, Lib.hid (by have := hs.out; have := hst.out; omega), hb2⟩
          case measure => simp [intOf]; omega
        · rw [hr]; clear hr
          go_wp2_with fail
          go_ret
          exact ⟨ret_i (by rw [ew.out, szR_no (by have := hs.out; have := hst.out; have := hle.out; omega)]), hb2⟩
      · go_wp2_with fail
        go_ret
        refine ⟨ret_i ?_, hb⟩
        have h2 := hs.out
        rw [List.take_of_length_le (by have := e1.out; omega)] at h2
        rw [ew.out, szR_yes (by omega)] <;> omega
  · go_enter Tryz.func29, Tryz.ntmps29
    go_wp2_with fail
    go_ret
    exact ⟨ret_i (by rw [ew.out, szR_no (by omega)]), Below.refl _ _⟩

set_option maxRecDepth 100000 in
set_option maxHeartbeats 1000000 in
theorem szSignalSet_any (w : World) (d : D_SignalSet) (left : Int) (A0 : Option Addr) (n0 c0 : Nat) (f0 : List Nat) (h0 : S_GlueS w f0 (.slice A0 n0 c0) d.g_Glues) (k0 : Within f0 0 w.heap.size) (A1 : Option Addr) (n1 c1 : Nat) (f1 : List Nat) (h1 : S_SignalTileS w f1 (.slice A1 n1 c1) d.g_Tiles) (k1 : Within f1 0 w.heap.size) (hL0 : 0 ≤ left) (hL1 : left ≤ 1048576) (ok : Ok_SignalSet d) :
    Calls Tryz.prog 6 #[.agg #[.slice A0 n0 c0, .slice A1 n1 c1], .int .i64 left] w fun e w' => e = .returned (.int .i64 (szR (wt_SignalSet d) left)) ∧ Below w.heap.size w w' := by
  obtain ⟨e0, b0, _⟩ := SlOf.n_eq h0
  replace e0 := Lib.hid e0
  obtain ⟨e1, b1, _⟩ := SlOf.n_eq h1
  replace e1 := Lib.hid e1
  obtain ⟨ok0, ok1⟩ := ok
  have ew : wt_SignalSet d = wt_GlueS (d.g_Glues) + (wt_SignalTileS (d.g_Tiles)) := rfl
  replace ew := Lib.hid ew
  have hb : Below w.heap.size w (w.alloc (.cells #[.slice A0 n0 c0, .slice A1 n1 c1] 25)) := (Below.refl _ _).alloc (Nat.le_refl _) _
  go_enter Tryz.func6, Tryz.ntmps6
  go_wp2_with fail
  refine (szGlueS_any _ _ _ _ f0 _ _ (h0.kb k0 hb) (k0.wide (Nat.le_refl _) hb.size) (by omega) (by omega) ok0).mono ?_
  rintro e w1 ⟨rfl, z0⟩
  have y0 := hb.trans (z0.mono hb.size)
  have r0 := fun o => z0.cell (p := ⟨w.heap.size, o, none⟩) (by first | (simp; done) | exact S0)
  have S0 : w.heap.size < w1.heap.size := Nat.lt_of_lt_of_le (by first | (simp; done) | exact S0) z0.size
  rcases szR_cases (wt_GlueS (d.g_Glues)) (left) with ⟨hr, q0⟩ | ⟨hr, q0⟩
  · rw [hr]; clear hr
    go_wp2_with fail
    refine (szSignalTileS_any _ _ _ _ f1 _ _ (h1.kb k1 y0) (k1.wide (Nat.le_refl _) y0.size) (by omega) (by omega) ok1).mono ?_
    rintro e w2 ⟨rfl, z1⟩
    have y1 := y0.trans (z1.mono y0.size)
    have r1 := fun o => z1.cell (p := ⟨w.heap.size, o, none⟩) (by first | (simp; done) | exact S0)
    have S0 : w.heap.size < w2.heap.size := Nat.lt_of_lt_of_le (by first | (simp; done) | exact S0) z1.size
    rcases szR_cases (wt_SignalTileS (d.g_Tiles)) (left - ((wt_GlueS (d.g_Glues) : Nat) : Int)) with ⟨hr, q1⟩ | ⟨hr, q1⟩
    · rw [hr]; clear hr
      go_wp2_with fail
      go_ret
      exact ⟨ret_i (by rw [ew.out, szR_yes (by omega)] <;> omega), y1⟩
    · rw [hr]; clear hr
      go_wp2_with fail
      go_ret
      exact ⟨ret_i (by rw [ew.out, szR_no (by omega)]), y1⟩
  · rw [hr]; clear hr
    go_wp2_with fail
    go_ret
    exact ⟨ret_i (by rw [ew.out, szR_no (by omega)]), y0⟩


end Go.Proofs.YtpbniieiinhliaaGreat

namespace Go.Proofs.YtpbniieiinhliaaGreat
open Go.RowKit


theorem info_Bool : (Tryz.prog.info? 4).map (fun i => (i.zero, i.size, i.bytes)) = some (some (.bool false), 1, 1) := by kernel_rfl

def Len_BoolS (xs : List Bool) : Prop := xs.length ≤ 1048576

set_option maxRecDepth 100000 in
set_option maxHeartbeats 1000000 in
theorem toBoolS_any (w : World) (A : Option Addr) (n c : Nat) (f : List Nat) (xs : List Bool) (hx : S_BoolS w f (.slice A n c) xs) (hf : Within f 0 w.heap.size) (hl : Len_BoolS xs) :
    Calls Tryz.prog 70 #[.slice A n c] w fun e w' => ∃ fp A' c', e = .returned (.slice A' xs.length c') ∧ S_BoolS w' fp (.slice A' xs.length c') xs ∧ Fresh w w' fp ∧ Below w.heap.size w w' := by
  obtain ⟨e1, b1, _⟩ := SlOf.n_eq hx
  unfold Len_BoolS at hl
  have hn : n ≤ 1048576 := by omega
  replace e1 := Lib.hid e1
  obtain ⟨i0, hi, hz0, hz1, hz2⟩ := info_parts info_Bool
  go_enter Tryz.func70, Tryz.ntmps70
  go_wp2_with (at_make; refine wpList_make_full _ rfl _ _ 67 rfl w.heap.size 4 i0 (.bool false) 1 Tryz.underlying67 hi hz0 hz1 _ _ _ _ n rfl rfl rfl rfl ?qb ?qm ?qbase ?_)
  case qb => rw [hz2]; omega
  case qm => simp only [maxLen]; omega
  case qbase => exact Nat.le_refl _
  intro w1 hown hgr
  have hinv : ToInv R_Bool 1 4 w w.heap.size n xs 0 w1 := ToInv.start hown hgr
  clear hown hgr hz0 hz1 hz2
  go_wp2_with fail
  go_loopw [4] (fun i wr => ∃ k : Nat, k ≤ n ∧ i = .int .i64 k ∧ ToInv R_Bool 1 4 w w.heap.size n xs k wr) (fun i _ => n - (intOf i).toNat)
  case atStart => exact ⟨0, Nat.zero_le _, rfl, hinv⟩
  case round =>
    obtain ⟨k, hk, rfl, hI⟩ := hrel
    clear hinv
    by_cases hlt : k < n
    · have hkl : k < xs.length := by have := e1.out; omega
      obtain ⟨b, o, rfl, _, q0⟩ := (hx.kb hf hI.below).at_ k hkl
      have hfz := hI.unf.frozen
      obtain ⟨v0, hv0⟩ := hI.cell rfl (k) (by omega)
      go_wp2_with fail
      go_roundw
      case rel => exact ⟨k + 1, by omega, by go_num, by
        have hS := hI.step (R_Bool.framed) hkl e1.out (Below.refl _ _) (cs := [.bool xs[k]]) (fp := []) ⟨rfl, rfl⟩ rfl (Fresh.nil _ _)
        rw [Nat.mul_one] at hS; exact hS⟩
      case measure => simp [intOf]; omega
    · go_wp2_with fail
      go_ret
      obtain ⟨fp, hS, hFr⟩ := hI.done hlt e1.out b1
      rw [← e1.out]
      exact ⟨fp, _, _, rfl, hS, hFr, hI.below⟩

set_option maxRecDepth 100000 in
set_option maxHeartbeats 1000000 in
theorem toFire_any (w : World) (d : D_Fire) :
    Calls Tryz.prog 129 #[.agg #[.int .i64 d.g_From, .int .i64 d.g_To]] w fun e w' => e = .returned (.agg #[.int .i64 d.g_From, .int .i64 d.g_To]) ∧ Below w.heap.size w w' := by
  go_enter Tryz.func129, Tryz.ntmps129
  go_wp2_with fail
  exact bodyPost_ret (v := .agg #[.int .i64 d.g_From, .int .i64 d.g_To]) (by simp [results, Tryz.results129, go_sem]) rfl ⟨rfl, by repeat (first | exact Below.refl _ _ | (refine Below.setCell ?_ (by simp; try omega) _) | (refine Below.alloc ?_ (by simp; try omega) _))⟩

theorem info_Fire : (Tryz.prog.info? 138).map (fun i => (i.zero, i.size, i.bytes)) = some (some (.agg #[.int .i64 0, .int .i64 0]), 2, 16) := by kernel_rfl

def Len_FireS (xs : List D_Fire) : Prop := xs.length ≤ 1048576

set_option maxRecDepth 100000 in
set_option maxHeartbeats 1000000 in
theorem toFireS_any (w : World) (A : Option Addr) (n c : Nat) (f : List Nat) (xs : List D_Fire) (hx : S_FireS w f (.slice A n c) xs) (hf : Within f 0 w.heap.size) (hl : Len_FireS xs) :
    Calls Tryz.prog 105 #[.slice A n c] w fun e w' => ∃ fp A' c', e = .returned (.slice A' xs.length c') ∧ S_FireS w' fp (.slice A' xs.length c') xs ∧ Fresh w w' fp ∧ Below w.heap.size w w' := by
  obtain ⟨e1, b1, _⟩ := SlOf.n_eq hx
  unfold Len_FireS at hl
  have hn : n ≤ 1048576 := by omega
  replace e1 := Lib.hid e1
  obtain ⟨i0, hi, hz0, hz1, hz2⟩ := info_parts info_Fire
  go_enter Tryz.func105, Tryz.ntmps105
  go_wp2_with (at_make; refine wpList_make_full _ rfl _ _ 118 rfl w.heap.size 138 i0 (.agg #[.int .i64 0, .int .i64 0]) 2 Tryz.underlying118 hi hz0 hz1 _ _ _ _ n rfl rfl rfl rfl ?qb ?qm ?qbase ?_)
  case qb => rw [hz2]; omega
  case qm => simp only [maxLen]; omega
  case qbase => exact Nat.le_refl _
  intro w1 hown hgr
  have hinv : ToInv R_Fire 2 138 w w.heap.size n xs 0 w1 := ToInv.start hown hgr
  clear hown hgr hz0 hz1 hz2
  go_wp2_with fail
  go_loopw [4] (fun i wr => ∃ k : Nat, k ≤ n ∧ i = .int .i64 k ∧ ToInv R_Fire 2 138 w w.heap.size n xs k wr) (fun i _ => n - (intOf i).toNat)
  case atStart => exact ⟨0, Nat.zero_le _, rfl, hinv⟩
  case round =>
    obtain ⟨k, hk, rfl, hI⟩ := hrel
    clear hinv
    by_cases hlt : k < n
    · have hkl : k < xs.length := by have := e1.out; omega
      obtain ⟨b, o, rfl, _, q0, q1⟩ := (hx.kb hf hI.below).at_ k hkl
      go_wp2_with fail
      refine (toFire_any wr xs[k]).mono ?_
      rintro e w1 ⟨rfl, hb1⟩
      have hsg := hb1.block w.heap.size hI.lt
      have hfz := (hI.unf.same hsg).frozen
      obtain ⟨v0, hv0⟩ := hI.cell hsg (k * 2) (by omega)
      obtain ⟨v1, hv1⟩ := hI.cell hsg (k * 2 + 1) (by omega)
      go_wp2_with fail
      go_roundw
      case rel => exact ⟨k + 1, by omega, by go_num, by
        have hS := hI.step (R_Fire.framed) hkl e1.out hb1 (cs := [.int .i64 xs[k].g_From, .int .i64 xs[k].g_To]) (fp := []) ⟨rfl, rfl⟩ rfl (Fresh.nil _ _)
        exact hS⟩
      case measure => simp [intOf]; omega
    · go_wp2_with fail
      go_ret
      obtain ⟨fp, hS, hFr⟩ := hI.done hlt e1.out b1
      rw [← e1.out]
      exact ⟨fp, _, _, rfl, hS, hFr, hI.below⟩

set_option maxRecDepth 100000 in
set_option maxHeartbeats 1000000 in
theorem toGlue_any (w : World) (d : D_Glue) :
    Calls Tryz.prog 68 #[.agg #[.string d.g_Name, .int .i64 d.g_Strength]] w fun e w' => e = .returned (.agg #[.string d.g_Name, .int .i64 d.g_Strength]) ∧ Below w.heap.size w w' := by
  go_enter Tryz.func68, Tryz.ntmps68
  go_wp2_with fail
  exact bodyPost_ret (v := .agg #[.string d.g_Name, .int .i64 d.g_Strength]) (by simp [results, Tryz.results68, go_sem]) rfl ⟨rfl, by repeat (first | exact Below.refl _ _ | (refine Below.setCell ?_ (by simp; try omega) _) | (refine Below.alloc ?_ (by simp; try omega) _))⟩

theorem info_Glue : (Tryz.prog.info? 116).map (fun i => (i.zero, i.size, i.bytes)) = some (some (.agg #[.string ⟨#[]⟩, .int .i64 0]), 2, 24) := by kernel_rfl

def Len_GlueS (xs : List D_Glue) : Prop := xs.length ≤ 1048576

set_option maxRecDepth 100000 in
set_option maxHeartbeats 1000000 in
theorem toGlueS_any (w : World) (A : Option Addr) (n c : Nat) (f : List Nat) (xs : List D_Glue) (hx : S_GlueS w f (.slice A n c) xs) (hf : Within f 0 w.heap.size) (hl : Len_GlueS xs) :
    Calls Tryz.prog 33 #[.slice A n c] w fun e w' => ∃ fp A' c', e = .returned (.slice A' xs.length c') ∧ S_GlueS w' fp (.slice A' xs.length c') xs ∧ Fresh w w' fp ∧ Below w.heap.size w w' := by
  obtain ⟨e1, b1, _⟩ := SlOf.n_eq hx
  unfold Len_GlueS at hl
  have hn : n ≤ 1048576 := by omega
  replace e1 := Lib.hid e1
  obtain ⟨i0, hi, hz0, hz1, hz2⟩ := info_parts info_Glue
  go_enter Tryz.func33, Tryz.ntmps33
  go_wp2_with (at_make; refine wpList_make_full _ rfl _ _ 32 rfl w.heap.size 116 i0 (.agg #[.string ⟨#[]⟩, .int .i64 0]) 2 Tryz.underlying32 hi hz0 hz1 _ _ _ _ n rfl rfl rfl rfl ?qb ?qm ?qbase ?_)
  case qb => rw [hz2]; omega
  case qm => simp only [maxLen]; omega
  case qbase => exact Nat.le_refl _
  intro w1 hown hgr
  have hinv : ToInv R_Glue 2 116 w w.heap.size n xs 0 w1 := ToInv.start hown hgr
  clear hown hgr hz0 hz1 hz2
  go_wp2_with fail
  go_loopw [4] (fun i wr => ∃ k : Nat, k ≤ n ∧ i = .int .i64 k ∧ ToInv R_Glue 2 116 w w.heap.size n xs k wr) (fun i _ => n - (intOf i).toNat)
  case atStart => exact ⟨0, Nat.zero_le _, rfl, hinv⟩
  case round =>
    obtain ⟨k, hk, rfl, hI⟩ := hrel
    clear hinv
    by_cases hlt : k < n
    · have hkl : k < xs.length := by have := e1.out; omega
      obtain ⟨b, o, rfl, _, q0, q1⟩ := (hx.kb hf hI.below).at_ k hkl
      go_wp2_with fail
      refine (toGlue_any wr xs[k]).mono ?_
      rintro e w1 ⟨rfl, hb1⟩
      have hsg := hb1.block w.heap.size hI.lt
      have hfz := (hI.unf.same hsg).frozen
      obtain ⟨v0, hv0⟩ := hI.cell hsg (k * 2) (by omega)
      obtain ⟨v1, hv1⟩ := hI.cell hsg (k * 2 + 1) (by omega)
      go_wp2_with fail
      go_roundw
      case rel => exact ⟨k + 1, by omega, by go_num, by
        have hS := hI.step (R_Glue.framed) hkl e1.out hb1 (cs := [.string xs[k].g_Name, .int .i64 xs[k].g_Strength]) (fp := []) ⟨rfl, rfl⟩ rfl (Fresh.nil _ _)
        exact hS⟩
      case measure => simp [intOf]; omega
    · go_wp2_with fail
      go_ret
      obtain ⟨fp, hS, hFr⟩ := hI.done hlt e1.out b1
      rw [← e1.out]
      exact ⟨fp, _, _, rfl, hS, hFr, hI.below⟩

theorem info_Int64 : (Tryz.prog.info? 2).map (fun i => (i.zero, i.size, i.bytes)) = some (some (.int .i64 0), 1, 8) := by kernel_rfl

def Len_Int64S (xs : List Int) : Prop := xs.length ≤ 1048576

set_option maxRecDepth 100000 in
set_option maxHeartbeats 1000000 in
theorem toInt64S_any (w : World) (A : Option Addr) (n c : Nat) (f : List Nat) (xs : List Int) (hx : S_Int64S w f (.slice A n c) xs) (hf : Within f 0 w.heap.size) (hl : Len_Int64S xs) :
    Calls Tryz.prog 24 #[.slice A n c] w fun e w' => ∃ fp A' c', e = .returned (.slice A' xs.length c') ∧ S_Int64S w' fp (.slice A' xs.length c') xs ∧ Fresh w w' fp ∧ Below w.heap.size w w' := by
  obtain ⟨e1, b1, _⟩ := SlOf.n_eq hx
  unfold Len_Int64S at hl
  have hn : n ≤ 1048576 := by omega
  replace e1 := Lib.hid e1
  obtain ⟨i0, hi, hz0, hz1, hz2⟩ := info_parts info_Int64
  go_enter Tryz.func24, Tryz.ntmps24
  go_wp2_with (at_make; refine wpList_make_full _ rfl _ _ 57 rfl w.heap.size 2 i0 (.int .i64 0) 1 Tryz.underlying57 hi hz0 hz1 _ _ _ _ n rfl rfl rfl rfl ?qb ?qm ?qbase ?_)
  case qb => rw [hz2]; omega
  case qm => simp only [maxLen]; omega
  case qbase => exact Nat.le_refl _
  intro w1 hown hgr
  have hinv : ToInv R_Int64 1 2 w w.heap.size n xs 0 w1 := ToInv.start hown hgr
  clear hown hgr hz0 hz1 hz2
  go_wp2_with fail
  go_loopw [4] (fun i wr => ∃ k : Nat, k ≤ n ∧ i = .int .i64 k ∧ ToInv R_Int64 1 2 w w.heap.size n xs k wr) (fun i _ => n - (intOf i).toNat)
  case atStart => exact ⟨0, Nat.zero_le _, rfl, hinv⟩
  case round =>
    obtain ⟨k, hk, rfl, hI⟩ := hrel
    clear hinv
    by_cases hlt : k < n
    · have hkl : k < xs.length := by have := e1.out; omega
      obtain ⟨b, o, rfl, _, q0⟩ := (hx.kb hf hI.below).at_ k hkl
      have hfz := hI.unf.frozen
      obtain ⟨v0, hv0⟩ := hI.cell rfl (k) (by omega)
      go_wp2_with fail
      go_roundw
      case rel => exact ⟨k + 1, by omega, by go_num, by
        have hS := hI.step (R_Int64.framed) hkl e1.out (Below.refl _ _) (cs := [.int .i64 xs[k]]) (fp := []) ⟨rfl, rfl⟩ rfl (Fresh.nil _ _)
        rw [Nat.mul_one] at hS; exact hS⟩
      case measure => simp [intOf]; omega
    · go_wp2_with fail
      go_ret
      obtain ⟨fp, hS, hFr⟩ := hI.done hlt e1.out b1
      rw [← e1.out]
      exact ⟨fp, _, _, rfl, hS, hFr, hI.below⟩

set_option maxRecDepth 100000 in
set_option maxHeartbeats 1000000 in
theorem toPoint_any (w : World) (d : D_Point) :
    Calls Tryz.prog 48 #[.agg #[.int .i64 d.g_X, .int .i64 d.g_Y]] w fun e w' => e = .returned (.agg #[.int .i64 d.g_X, .int .i64 d.g_Y]) ∧ Below w.heap.size w w' := by
  go_enter Tryz.func48, Tryz.ntmps48
  go_wp2_with fail
  exact bodyPost_ret (v := .agg #[.int .i64 d.g_X, .int .i64 d.g_Y]) (by simp [results, Tryz.results48, go_sem]) rfl ⟨rfl, by repeat (first | exact Below.refl _ _ | (refine Below.setCell ?_ (by simp; try omega) _) | (refine Below.alloc ?_ (by simp; try omega) _))⟩

def Len_SignalCell (d : D_SignalCell) : Prop := Len_BoolS d.g_On ∧ Len_BoolS d.g_Bound ∧ Len_BoolS d.g_Fired

set_option maxRecDepth 100000 in
set_option maxHeartbeats 1000000 in
theorem toSignalCell_any (w : World) (d : D_SignalCell) (A3 : Option Addr) (n3 c3 : Nat) (f3 : List Nat) (h3 : S_BoolS w f3 (.slice A3 n3 c3) d.g_On) (k3 : Within f3 0 w.heap.size) (A4 : Option Addr) (n4 c4 : Nat) (f4 : List Nat) (h4 : S_BoolS w f4 (.slice A4 n4 c4) d.g_Bound) (k4 : Within f4 0 w.heap.size) (A5 : Option Addr) (n5 c5 : Nat) (f5 : List Nat) (h5 : S_BoolS w f5 (.slice A5 n5 c5) d.g_Fired) (k5 : Within f5 0 w.heap.size) (hl : Len_SignalCell d) :
    Calls Tryz.prog 35 #[.agg #[.int .i64 d.g_At.g_X, .int .i64 d.g_At.g_Y, .int .i64 d.g_Tile, .slice A3 n3 c3, .slice A4 n4 c4, .slice A5 n5 c5]] w fun e w' => ∃ fp A3' c3' A4' c4' A5' c5', e = .returned (.agg #[.int .i64 d.g_At.g_X, .int .i64 d.g_At.g_Y, .int .i64 d.g_Tile, .slice A3' d.g_On.length c3', .slice A4' d.g_Bound.length c4', .slice A5' d.g_Fired.length c5']) ∧ R_SignalCell w' fp [.int .i64 d.g_At.g_X, .int .i64 d.g_At.g_Y, .int .i64 d.g_Tile, .slice A3' d.g_On.length c3', .slice A4' d.g_Bound.length c4', .slice A5' d.g_Fired.length c5'] d ∧ Fresh w w' fp ∧ Below w.heap.size w w' := by
  obtain ⟨l3, l4, l5⟩ := hl
  obtain ⟨e3, b3, _⟩ := SlOf.n_eq h3
  replace e3 := Lib.hid e3
  obtain ⟨e4, b4, _⟩ := SlOf.n_eq h4
  replace e4 := Lib.hid e4
  obtain ⟨e5, b5, _⟩ := SlOf.n_eq h5
  replace e5 := Lib.hid e5
  go_enter Tryz.func35, Tryz.ntmps35
  go_wp2_with fail
  refine (toPoint_any _ d.g_At).mono ?_
  rintro e w0 ⟨rfl, z0⟩
  have H0 := (z0.block (w.heap.size) (by rw [size3]; omega)).trans (blk3 w _ _ _).1
  have H1 := (z0.block (w.heap.size + 1) (by rw [size3]; omega)).trans (blk3 w _ _ _).2.1
  have H2 := (z0.block (w.heap.size + 1 + 1) (by rw [size3]; omega)).trans (blk3 w _ _ _).2.2
  have lo0 : w.heap.size + 3 ≤ w0.heap.size := heap_lt H2
  have yy0 : Below w.heap.size w w0 := (below3 _ _ _ _).trans (z0.mono (by rw [size3]; omega))
  have C0 := fun j => cell_of_row w0 (w.heap.size) j _ _ _ H0
  have C1 := fun j => cell_of_row w0 (w.heap.size + 1) j _ _ _ H1
  have C2 := fun j => cell_of_row w0 (w.heap.size + 1 + 1) j _ _ _ H2
  have F1 := fun o => Unf.frozen ⟨_, _, H1⟩ o
  have F2 := fun o => Unf.frozen ⟨_, _, H2⟩ o
  replace H0 := Lib.hid H0
  replace H1 := Lib.hid H1
  replace H2 := Lib.hid H2
  go_wp2_with fail
  clear C0 C1 C2 F1 F2
  replace H0 := H0.out
  replace H1 := H1.out
  replace H2 := H2.out
  refine (toBoolS_any _ _ _ _ f3 _ (h3.kb k3 (by exact Below.setCell (Below.setCell (Below.setCell (yy0) (by dsimp only; omega) _) (by dsimp only; omega) _) (by dsimp only; omega) _)) (k3.wide (Nat.le_refl _) (Below.size (B := w.heap.size) (by exact Below.setCell (Below.setCell (Below.setCell (yy0) (by dsimp only; omega) _) (by dsimp only; omega) _) (by dsimp only; omega) _))) l3).mono ?_
  rintro e w1 ⟨p3, A3', c3', rfl, hR3, hF3, z1⟩
  replace H0 := (z1.block (w.heap.size) (by simp only [size_set]; omega)).trans ((Below.heap_setCell _ _ _ _ (by dsimp only; omega)).trans ((Below.heap_setCell _ _ _ _ (by dsimp only; omega)).trans ((Below.heap_setCell _ _ _ _ (by dsimp only; omega)).trans (H0))))
  replace H1 := (z1.block (w.heap.size + 1) (by simp only [size_set]; omega)).trans ((Below.heap_setCell _ _ _ _ (by dsimp only; omega)).trans ((Below.heap_setCell _ _ _ _ (by dsimp only; omega)).trans ((Below.heap_setCell _ _ _ _ (by dsimp only; omega)).trans (H1))))
  replace H2 := (z1.block (w.heap.size + 1 + 1) (by simp only [size_set]; omega)).trans (heap_setCell_same (heap_setCell_same (heap_setCell_same (H2) _ _) _ _) _ _)
  simp at H2
  have m1 : w0.heap.size ≤ w1.heap.size := by have := z1.size; simp only [size_set] at this; exact this
  have lo1 : w.heap.size + 3 ≤ w1.heap.size := by omega
  have yy1 : Below w.heap.size w w1 := Below.trans (Below.setCell (Below.setCell (Below.setCell (yy0) (by dsimp only; omega) _) (by dsimp only; omega) _) (by dsimp only; omega) _) (z1.mono (by simp only [size_set]; omega))
  have C0 := fun j => cell_of_row w1 (w.heap.size) j _ _ _ H0
  have C1 := fun j => cell_of_row w1 (w.heap.size + 1) j _ _ _ H1
  have C2 := fun j => cell_of_row w1 (w.heap.size + 1 + 1) j _ _ _ H2
  have F1 := fun o => Unf.frozen ⟨_, _, H1⟩ o
  have F2 := fun o => Unf.frozen ⟨_, _, H2⟩ o
  replace H0 := Lib.hid H0
  replace H1 := Lib.hid H1
  replace H2 := Lib.hid H2
  go_wp2_with fail
  clear C0 C1 C2 F1 F2
  replace H0 := H0.out
  replace H1 := H1.out
  replace H2 := H2.out
  refine (toBoolS_any _ _ _ _ f4 _ (h4.kb k4 (by exact Below.setCell (yy1) (by dsimp only; omega) _)) (k4.wide (Nat.le_refl _) (Below.size (B := w.heap.size) (by exact Below.setCell (yy1) (by dsimp only; omega) _))) l4).mono ?_
  rintro e w2 ⟨p4, A4', c4', rfl, hR4, hF4, z2⟩
  replace H0 := (z2.block (w.heap.size) (by simp only [size_set]; omega)).trans ((Below.heap_setCell _ _ _ _ (by dsimp only; omega)).trans (H0))
  replace H1 := (z2.block (w.heap.size + 1) (by simp only [size_set]; omega)).trans ((Below.heap_setCell _ _ _ _ (by dsimp only; omega)).trans (H1))
  replace H2 := (z2.block (w.heap.size + 1 + 1) (by simp only [size_set]; omega)).trans (heap_setCell_same (H2) _ _)
  simp at H2
  have m2 : w1.heap.size ≤ w2.heap.size := by have := z2.size; simp only [size_set] at this; exact this
  have lo2 : w.heap.size + 3 ≤ w2.heap.size := by omega
  have yy2 : Below w.heap.size w w2 := Below.trans (Below.setCell (yy1) (by dsimp only; omega) _) (z2.mono (by simp only [size_set]; omega))
  have C0 := fun j => cell_of_row w2 (w.heap.size) j _ _ _ H0
  have C1 := fun j => cell_of_row w2 (w.heap.size + 1) j _ _ _ H1
  have C2 := fun j => cell_of_row w2 (w.heap.size + 1 + 1) j _ _ _ H2
  have F1 := fun o => Unf.frozen ⟨_, _, H1⟩ o
  have F2 := fun o => Unf.frozen ⟨_, _, H2⟩ o
  replace H0 := Lib.hid H0
  replace H1 := Lib.hid H1
  replace H2 := Lib.hid H2
  go_wp2_with fail
  clear C0 C1 C2 F1 F2
  replace H0 := H0.out
  replace H1 := H1.out
  replace H2 := H2.out
  refine (toBoolS_any _ _ _ _ f5 _ (h5.kb k5 (by exact Below.setCell (yy2) (by dsimp only; omega) _)) (k5.wide (Nat.le_refl _) (Below.size (B := w.heap.size) (by exact Below.setCell (yy2) (by dsimp only; omega) _))) l5).mono ?_
  rintro e w3 ⟨p5, A5', c5', rfl, hR5, hF5, z3⟩
  replace H0 := (z3.block (w.heap.size) (by simp only [size_set]; omega)).trans ((Below.heap_setCell _ _ _ _ (by dsimp only; omega)).trans (H0))
  replace H1 := (z3.block (w.heap.size + 1) (by simp only [size_set]; omega)).trans ((Below.heap_setCell _ _ _ _ (by dsimp only; omega)).trans (H1))
  replace H2 := (z3.block (w.heap.size + 1 + 1) (by simp only [size_set]; omega)).trans (heap_setCell_same (H2) _ _)
  simp at H2
  have m3 : w2.heap.size ≤ w3.heap.size := by have := z3.size; simp only [size_set] at this; exact this
  have lo3 : w.heap.size + 3 ≤ w3.heap.size := by omega
  have yy3 : Below w.heap.size w w3 := Below.trans (Below.setCell (yy2) (by dsimp only; omega) _) (z3.mono (by simp only [size_set]; omega))
  have C0 := fun j => cell_of_row w3 (w.heap.size) j _ _ _ H0
  have C1 := fun j => cell_of_row w3 (w.heap.size + 1) j _ _ _ H1
  have C2 := fun j => cell_of_row w3 (w.heap.size + 1 + 1) j _ _ _ H2
  have F1 := fun o => Unf.frozen ⟨_, _, H1⟩ o
  have F2 := fun o => Unf.frozen ⟨_, _, H2⟩ o
  replace H0 := Lib.hid H0
  replace H1 := Lib.hid H1
  replace H2 := Lib.hid H2
  go_wp2_with fail
  refine bodyPost_ret (v := .agg #[.int .i64 d.g_At.g_X, .int .i64 d.g_At.g_Y, .int .i64 d.g_Tile, .slice A3' d.g_On.length c3', .slice A4' d.g_Bound.length c4', .slice A5' d.g_Fired.length c5']) (by simp [results, Tryz.results35, go_sem, C1]) rfl ?_
  refine ⟨p3 ++ (p4 ++ (p5)), A3', c3', A4', c4', A5', c5', rfl, ?_⟩
  refine ⟨⟨_, _, _, _, _, _, rfl, rfl, SlOf.same R_Bool.framed hR3 (Keep.on (lo := w.heap.size + 3) (hi := w1.heap.size) (Keep.set_ (Keep.set_ (Keep.set_ (Keep.set_ (Keep.set_ (Keep.set_ (Keep.set_ (Keep.below (Keep.set_ (Keep.below (Keep.set_ (Keep.refl _ _ _) (by omega) _) z2 (by simp only [size_set]; omega)) (by omega) _) z3 (by simp only [size_set]; omega)) (by omega) _) (by omega) _) (by omega) _) (by omega) _) (by omega) _) (by omega) _) (by omega) _) (hF3.within.wide (by first | (rw [size3]; omega) | (simp only [size_set]; omega)) (Nat.le_refl _))), SlOf.same R_Bool.framed hR4 (Keep.on (lo := w.heap.size + 3) (hi := w2.heap.size) (Keep.set_ (Keep.set_ (Keep.set_ (Keep.set_ (Keep.set_ (Keep.set_ (Keep.set_ (Keep.below (Keep.set_ (Keep.refl _ _ _) (by omega) _) z3 (by simp only [size_set]; omega)) (by omega) _) (by omega) _) (by omega) _) (by omega) _) (by omega) _) (by omega) _) (by omega) _) (hF4.within.wide (by first | (rw [size3]; omega) | (simp only [size_set]; omega)) (Nat.le_refl _))), SlOf.same R_Bool.framed hR5 (Keep.on (lo := w.heap.size + 3) (hi := w3.heap.size) (Keep.set_ (Keep.set_ (Keep.set_ (Keep.set_ (Keep.set_ (Keep.set_ (Keep.set_ (Keep.refl _ _ _) (by omega) _) (by omega) _) (by omega) _) (by omega) _) (by omega) _) (by omega) _) (by omega) _) (hF5.within.wide (by first | (rw [size3]; omega) | (simp only [size_set]; omega)) (Nat.le_refl _)))⟩, ?_, ?_⟩
  · exact FreshAt.fresh (FreshAt.app (hF3.at_ (lo := w.heap.size + 3) (Keep.set_ (Keep.set_ (Keep.set_ (Keep.set_ (Keep.set_ (Keep.set_ (Keep.set_ (Keep.below (Keep.set_ (Keep.below (Keep.set_ (Keep.refl _ _ _) (by omega) _) z2 (by simp only [size_set]; omega)) (by omega) _) z3 (by simp only [size_set]; omega)) (by omega) _) (by omega) _) (by omega) _) (by omega) _) (by omega) _) (by omega) _) (by omega) _) (by first | (rw [size3]; omega) | (simp only [size_set]; omega))) (FreshAt.app (hF4.at_ (lo := w.heap.size + 3) (Keep.set_ (Keep.set_ (Keep.set_ (Keep.set_ (Keep.set_ (Keep.set_ (Keep.set_ (Keep.below (Keep.set_ (Keep.refl _ _ _) (by omega) _) z3 (by simp only [size_set]; omega)) (by omega) _) (by omega) _) (by omega) _) (by omega) _) (by omega) _) (by omega) _) (by omega) _) (by first | (rw [size3]; omega) | (simp only [size_set]; omega))) (hF5.at_ (lo := w.heap.size + 3) (Keep.set_ (Keep.set_ (Keep.set_ (Keep.set_ (Keep.set_ (Keep.set_ (Keep.set_ (Keep.refl _ _ _) (by omega) _) (by omega) _) (by omega) _) (by omega) _) (by omega) _) (by omega) _) (by omega) _) (by first | (rw [size3]; omega) | (simp only [size_set]; omega))) (by simp only [size_set]; omega) (by have := z2.size; omega) (by have := z2.size; simp only [size_set] at *; omega)) (by simp only [size_set]; omega) (by have := z1.size; omega) (by have := z1.size; simp only [size_set] at *; omega)) (by first | (rw [size3]; omega) | (simp only [size_set]; omega)) (by simp only [size_set]; omega)
  · exact Below.setCell (Below.setCell (Below.setCell (Below.setCell (Below.setCell (Below.setCell (Below.setCell (yy3) (by dsimp only; omega) _) (by dsimp only; omega) _) (by dsimp only; omega) _) (by dsimp only; omega) _) (by dsimp only; omega) _) (by dsimp only; omega) _) (by dsimp only; omega) _

theorem info_SignalCell : (Tryz.prog.info? 76).map (fun i => (i.zero, i.size, i.bytes)) = some (some (.agg #[.int .i64 0, .int .i64 0, .int .i64 0, .slice none 0 0, .slice none 0 0, .slice none 0 0]), 6, 96) := by kernel_rfl

def Len_SignalCellS (xs : List D_SignalCell) : Prop := xs.length ≤ 1048576 ∧ ∀ k (h : k < xs.length), Len_SignalCell xs[k]

set_option maxRecDepth 100000 in
set_option maxHeartbeats 1000000 in
theorem toSignalCellS_any (w : World) (A : Option Addr) (n c : Nat) (f : List Nat) (xs : List D_SignalCell) (hx : S_SignalCellS w f (.slice A n c) xs) (hf : Within f 0 w.heap.size) (hl : Len_SignalCellS xs) :
    Calls Tryz.prog 10 #[.slice A n c] w fun e w' => ∃ fp A' c', e = .returned (.slice A' xs.length c') ∧ S_SignalCellS w' fp (.slice A' xs.length c') xs ∧ Fresh w w' fp ∧ Below w.heap.size w w' := by
  obtain ⟨e1, b1, _⟩ := SlOf.n_eq hx
  obtain ⟨hl, hlen⟩ := hl
  have hn : n ≤ 1048576 := by omega
  replace e1 := Lib.hid e1
  obtain ⟨i0, hi, hz0, hz1, hz2⟩ := info_parts info_SignalCell
  go_enter Tryz.func10, Tryz.ntmps10
  go_wp2_with (at_make; refine wpList_make_full _ rfl _ _ 37 rfl w.heap.size 76 i0 (.agg #[.int .i64 0, .int .i64 0, .int .i64 0, .slice none 0 0, .slice none 0 0, .slice none 0 0]) 6 Tryz.underlying37 hi hz0 hz1 _ _ _ _ n rfl rfl rfl rfl ?qb ?qm ?qbase ?_)
  case qb => rw [hz2]; omega
  case qm => simp only [maxLen]; omega
  case qbase => exact Nat.le_refl _
  intro w1 hown hgr
  have hinv : ToInv R_SignalCell 6 76 w w.heap.size n xs 0 w1 := ToInv.start hown hgr
  clear hown hgr hz0 hz1 hz2
  go_wp2_with fail
  go_loopw [4] (fun i wr => ∃ k : Nat, k ≤ n ∧ i = .int .i64 k ∧ ToInv R_SignalCell 6 76 w w.heap.size n xs k wr) (fun i _ => n - (intOf i).toNat)
  case atStart => exact ⟨0, Nat.zero_le _, rfl, hinv⟩
  case round =>
    obtain ⟨k, hk, rfl, hI⟩ := hrel
    clear hinv
    by_cases hlt : k < n
    · have hkl : k < xs.length := by have := e1.out; omega
      obtain ⟨b, o, A3, c3, f3, A4, c4, f4, A5, c5, f5, rfl, _, g3, g4, g5, q0, q1, q2, q3, q4, q5, s3, s4, s5⟩ := (hx.kb hf hI.below).at_ k hkl
      go_wp2_with fail
      refine (toSignalCell_any wr xs[k] A3 _ c3 f3 s3 (fun x hx => ⟨Nat.zero_le _, Nat.lt_of_lt_of_le (hf x (g3 x hx)).2 hI.below.size⟩) A4 _ c4 f4 s4 (fun x hx => ⟨Nat.zero_le _, Nat.lt_of_lt_of_le (hf x (g4 x hx)).2 hI.below.size⟩) A5 _ c5 f5 s5 (fun x hx => ⟨Nat.zero_le _, Nat.lt_of_lt_of_le (hf x (g5 x hx)).2 hI.below.size⟩) (hlen k hkl)).mono ?_
      rintro e w1 ⟨fp, A3', c3', A4', c4', A5', c5', rfl, hR, hFr, hb1⟩
      have hsg := hb1.block w.heap.size hI.lt
      have hfz := (hI.unf.same hsg).frozen
      obtain ⟨v0, hv0⟩ := hI.cell hsg (k * 6) (by omega)
      obtain ⟨v1, hv1⟩ := hI.cell hsg (k * 6 + 1) (by omega)
      obtain ⟨v2, hv2⟩ := hI.cell hsg (k * 6 + 2) (by omega)
      obtain ⟨v3, hv3⟩ := hI.cell hsg (k * 6 + 3) (by omega)
      obtain ⟨v4, hv4⟩ := hI.cell hsg (k * 6 + 4) (by omega)
      obtain ⟨v5, hv5⟩ := hI.cell hsg (k * 6 + 5) (by omega)
      go_wp2_with fail
      go_roundw
      case rel => exact ⟨k + 1, by omega, by go_num, by
        have hS := hI.step (R_SignalCell.framed) hkl e1.out hb1 (cs := [.int .i64 xs[k].g_At.g_X, .int .i64 xs[k].g_At.g_Y, .int .i64 xs[k].g_Tile, .slice A3' _ c3', .slice A4' _ c4', .slice A5' _ c5']) (fp := _) hR rfl hFr
        exact hS⟩
      case measure => simp [intOf]; omega
    · go_wp2_with fail
      go_ret
      obtain ⟨fp, hS, hFr⟩ := hI.done hlt e1.out b1
      rw [← e1.out]
      exact ⟨fp, _, _, rfl, hS, hFr, hI.below⟩

def Len_SignalTile (d : D_SignalTile) : Prop := Len_Int64S d.g_Sides ∧ Len_BoolS d.g_On ∧ Len_FireS d.g_Fires

set_option maxRecDepth 100000 in
set_option maxHeartbeats 1000000 in
theorem toSignalTile_any (w : World) (d : D_SignalTile) (A1 : Option Addr) (n1 c1 : Nat) (f1 : List Nat) (h1 : S_Int64S w f1 (.slice A1 n1 c1) d.g_Sides) (k1 : Within f1 0 w.heap.size) (A2 : Option Addr) (n2 c2 : Nat) (f2 : List Nat) (h2 : S_BoolS w f2 (.slice A2 n2 c2) d.g_On) (k2 : Within f2 0 w.heap.size) (A3 : Option Addr) (n3 c3 : Nat) (f3 : List Nat) (h3 : S_FireS w f3 (.slice A3 n3 c3) d.g_Fires) (k3 : Within f3 0 w.heap.size) (hl : Len_SignalTile d) :
    Calls Tryz.prog 69 #[.agg #[.string d.g_Name, .slice A1 n1 c1, .slice A2 n2 c2, .slice A3 n3 c3]] w fun e w' => ∃ fp A1' c1' A2' c2' A3' c3', e = .returned (.agg #[.string d.g_Name, .slice A1' d.g_Sides.length c1', .slice A2' d.g_On.length c2', .slice A3' d.g_Fires.length c3']) ∧ R_SignalTile w' fp [.string d.g_Name, .slice A1' d.g_Sides.length c1', .slice A2' d.g_On.length c2', .slice A3' d.g_Fires.length c3'] d ∧ Fresh w w' fp ∧ Below w.heap.size w w' := by
  obtain ⟨l1, l2, l3⟩ := hl
  obtain ⟨e1, b1, _⟩ := SlOf.n_eq h1
  replace e1 := Lib.hid e1
  obtain ⟨e2, b2, _⟩ := SlOf.n_eq h2
  replace e2 := Lib.hid e2
  obtain ⟨e3, b3, _⟩ := SlOf.n_eq h3
  replace e3 := Lib.hid e3
  go_enter Tryz.func69, Tryz.ntmps69
  go_wp2_with fail
  refine (toInt64S_any _ _ _ _ f1 _ (h1.kb k1 (by exact below3 _ _ _ _)) (k1.wide (Nat.le_refl _) (Below.size (B := w.heap.size) (by exact below3 _ _ _ _))) l1).mono ?_
  rintro e w0 ⟨p1, A1', c1', rfl, hR1, hF1, z0⟩
  have H0 := (z0.block (w.heap.size) (by rw [size3]; omega)).trans (blk3 w _ _ _).1
  have H1 := (z0.block (w.heap.size + 1) (by rw [size3]; omega)).trans (blk3 w _ _ _).2.1
  have H2 := (z0.block (w.heap.size + 1 + 1) (by rw [size3]; omega)).trans (blk3 w _ _ _).2.2
  have lo0 : w.heap.size + 3 ≤ w0.heap.size := heap_lt H2
  have yy0 : Below w.heap.size w w0 := (below3 _ _ _ _).trans (z0.mono (by rw [size3]; omega))
  have C0 := fun j => cell_of_row w0 (w.heap.size) j _ _ _ H0
  have C1 := fun j => cell_of_row w0 (w.heap.size + 1) j _ _ _ H1
  have C2 := fun j => cell_of_row w0 (w.heap.size + 1 + 1) j _ _ _ H2
  have F1 := fun o => Unf.frozen ⟨_, _, H1⟩ o
  have F2 := fun o => Unf.frozen ⟨_, _, H2⟩ o
  replace H0 := Lib.hid H0
  replace H1 := Lib.hid H1
  replace H2 := Lib.hid H2
  go_wp2_with fail
  clear C0 C1 C2 F1 F2
  replace H0 := H0.out
  replace H1 := H1.out
  replace H2 := H2.out
  refine (toBoolS_any _ _ _ _ f2 _ (h2.kb k2 (by exact Below.setCell (yy0) (by dsimp only; omega) _)) (k2.wide (Nat.le_refl _) (Below.size (B := w.heap.size) (by exact Below.setCell (yy0) (by dsimp only; omega) _))) l2).mono ?_
  rintro e w1 ⟨p2, A2', c2', rfl, hR2, hF2, z1⟩
  replace H0 := (z1.block (w.heap.size) (by simp only [size_set]; omega)).trans ((Below.heap_setCell _ _ _ _ (by dsimp only; omega)).trans (H0))
  replace H1 := (z1.block (w.heap.size + 1) (by simp only [size_set]; omega)).trans ((Below.heap_setCell _ _ _ _ (by dsimp only; omega)).trans (H1))
  replace H2 := (z1.block (w.heap.size + 1 + 1) (by simp only [size_set]; omega)).trans (heap_setCell_same (H2) _ _)
  simp at H2
  have m1 : w0.heap.size ≤ w1.heap.size := by have := z1.size; simp only [size_set] at this; exact this
  have lo1 : w.heap.size + 3 ≤ w1.heap.size := by omega
  have yy1 : Below w.heap.size w w1 := Below.trans (Below.setCell (yy0) (by dsimp only; omega) _) (z1.mono (by simp only [size_set]; omega))
  have C0 := fun j => cell_of_row w1 (w.heap.size) j _ _ _ H0
  have C1 := fun j => cell_of_row w1 (w.heap.size + 1) j _ _ _ H1
  have C2 := fun j => cell_of_row w1 (w.heap.size + 1 + 1) j _ _ _ H2
  have F1 := fun o => Unf.frozen ⟨_, _, H1⟩ o
  have F2 := fun o => Unf.frozen ⟨_, _, H2⟩ o
  replace H0 := Lib.hid H0
  replace H1 := Lib.hid H1
  replace H2 := Lib.hid H2
  go_wp2_with fail
  clear C0 C1 C2 F1 F2
  replace H0 := H0.out
  replace H1 := H1.out
  replace H2 := H2.out
  refine (toFireS_any _ _ _ _ f3 _ (h3.kb k3 (by exact Below.setCell (yy1) (by dsimp only; omega) _)) (k3.wide (Nat.le_refl _) (Below.size (B := w.heap.size) (by exact Below.setCell (yy1) (by dsimp only; omega) _))) l3).mono ?_
  rintro e w2 ⟨p3, A3', c3', rfl, hR3, hF3, z2⟩
  replace H0 := (z2.block (w.heap.size) (by simp only [size_set]; omega)).trans ((Below.heap_setCell _ _ _ _ (by dsimp only; omega)).trans (H0))
  replace H1 := (z2.block (w.heap.size + 1) (by simp only [size_set]; omega)).trans ((Below.heap_setCell _ _ _ _ (by dsimp only; omega)).trans (H1))
  replace H2 := (z2.block (w.heap.size + 1 + 1) (by simp only [size_set]; omega)).trans (heap_setCell_same (H2) _ _)
  simp at H2
  have m2 : w1.heap.size ≤ w2.heap.size := by have := z2.size; simp only [size_set] at this; exact this
  have lo2 : w.heap.size + 3 ≤ w2.heap.size := by omega
  have yy2 : Below w.heap.size w w2 := Below.trans (Below.setCell (yy1) (by dsimp only; omega) _) (z2.mono (by simp only [size_set]; omega))
  have C0 := fun j => cell_of_row w2 (w.heap.size) j _ _ _ H0
  have C1 := fun j => cell_of_row w2 (w.heap.size + 1) j _ _ _ H1
  have C2 := fun j => cell_of_row w2 (w.heap.size + 1 + 1) j _ _ _ H2
  have F1 := fun o => Unf.frozen ⟨_, _, H1⟩ o
  have F2 := fun o => Unf.frozen ⟨_, _, H2⟩ o
  replace H0 := Lib.hid H0
  replace H1 := Lib.hid H1
  replace H2 := Lib.hid H2
  go_wp2_with fail
  refine bodyPost_ret (v := .agg #[.string d.g_Name, .slice A1' d.g_Sides.length c1', .slice A2' d.g_On.length c2', .slice A3' d.g_Fires.length c3']) (by simp [results, Tryz.results69, go_sem, C1]) rfl ?_
  refine ⟨p1 ++ (p2 ++ (p3)), A1', c1', A2', c2', A3', c3', rfl, ?_⟩
  refine ⟨⟨_, _, _, _, _, _, rfl, rfl, SlOf.same R_Int64.framed hR1 (Keep.on (lo := w.heap.size + 3) (hi := w0.heap.size) (Keep.set_ (Keep.set_ (Keep.set_ (Keep.set_ (Keep.set_ (Keep.below (Keep.set_ (Keep.below (Keep.set_ (Keep.refl _ _ _) (by omega) _) z1 (by simp only [size_set]; omega)) (by omega) _) z2 (by simp only [size_set]; omega)) (by omega) _) (by omega) _) (by omega) _) (by omega) _) (by omega) _) (hF1.within.wide (by first | (rw [size3]; omega) | (simp only [size_set]; omega)) (Nat.le_refl _))), SlOf.same R_Bool.framed hR2 (Keep.on (lo := w.heap.size + 3) (hi := w1.heap.size) (Keep.set_ (Keep.set_ (Keep.set_ (Keep.set_ (Keep.set_ (Keep.below (Keep.set_ (Keep.refl _ _ _) (by omega) _) z2 (by simp only [size_set]; omega)) (by omega) _) (by omega) _) (by omega) _) (by omega) _) (by omega) _) (hF2.within.wide (by first | (rw [size3]; omega) | (simp only [size_set]; omega)) (Nat.le_refl _))), SlOf.same R_Fire.framed hR3 (Keep.on (lo := w.heap.size + 3) (hi := w2.heap.size) (Keep.set_ (Keep.set_ (Keep.set_ (Keep.set_ (Keep.set_ (Keep.refl _ _ _) (by omega) _) (by omega) _) (by omega) _) (by omega) _) (by omega) _) (hF3.within.wide (by first | (rw [size3]; omega) | (simp only [size_set]; omega)) (Nat.le_refl _)))⟩, ?_, ?_⟩
  · exact FreshAt.fresh (FreshAt.app (hF1.at_ (lo := w.heap.size + 3) (Keep.set_ (Keep.set_ (Keep.set_ (Keep.set_ (Keep.set_ (Keep.below (Keep.set_ (Keep.below (Keep.set_ (Keep.refl _ _ _) (by omega) _) z1 (by simp only [size_set]; omega)) (by omega) _) z2 (by simp only [size_set]; omega)) (by omega) _) (by omega) _) (by omega) _) (by omega) _) (by omega) _) (by first | (rw [size3]; omega) | (simp only [size_set]; omega))) (FreshAt.app (hF2.at_ (lo := w.heap.size + 3) (Keep.set_ (Keep.set_ (Keep.set_ (Keep.set_ (Keep.set_ (Keep.below (Keep.set_ (Keep.refl _ _ _) (by omega) _) z2 (by simp only [size_set]; omega)) (by omega) _) (by omega) _) (by omega) _) (by omega) _) (by omega) _) (by first | (rw [size3]; omega) | (simp only [size_set]; omega))) (hF3.at_ (lo := w.heap.size + 3) (Keep.set_ (Keep.set_ (Keep.set_ (Keep.set_ (Keep.set_ (Keep.refl _ _ _) (by omega) _) (by omega) _) (by omega) _) (by omega) _) (by omega) _) (by first | (rw [size3]; omega) | (simp only [size_set]; omega))) (by simp only [size_set]; omega) (by have := z1.size; omega) (by have := z1.size; simp only [size_set] at *; omega)) (by simp only [size_set]; omega) (by have := z0.size; omega) (by have := z0.size; simp only [size_set] at *; omega)) (by first | (rw [size3]; omega) | (simp only [size_set]; omega)) (by simp only [size_set]; omega)
  · exact Below.setCell (Below.setCell (Below.setCell (Below.setCell (Below.setCell (yy2) (by dsimp only; omega) _) (by dsimp only; omega) _) (by dsimp only; omega) _) (by dsimp only; omega) _) (by dsimp only; omega) _

theorem info_SignalTile : (Tryz.prog.info? 120).map (fun i => (i.zero, i.size, i.bytes)) = some (some (.agg #[.string ⟨#[]⟩, .slice none 0 0, .slice none 0 0, .slice none 0 0]), 4, 88) := by kernel_rfl

def Len_SignalTileS (xs : List D_SignalTile) : Prop := xs.length ≤ 1048576 ∧ ∀ k (h : k < xs.length), Len_SignalTile xs[k]

set_option maxRecDepth 100000 in
set_option maxHeartbeats 1000000 in
theorem toSignalTileS_any (w : World) (A : Option Addr) (n c : Nat) (f : List Nat) (xs : List D_SignalTile) (hx : S_SignalTileS w f (.slice A n c) xs) (hf : Within f 0 w.heap.size) (hl : Len_SignalTileS xs) :
    Calls Tryz.prog 34 #[.slice A n c] w fun e w' => ∃ fp A' c', e = .returned (.slice A' xs.length c') ∧ S_SignalTileS w' fp (.slice A' xs.length c') xs ∧ Fresh w w' fp ∧ Below w.heap.size w w' := by
  obtain ⟨e1, b1, _⟩ := SlOf.n_eq hx
  obtain ⟨hl, hlen⟩ := hl
  have hn : n ≤ 1048576 := by omega
  replace e1 := Lib.hid e1
  obtain ⟨i0, hi, hz0, hz1, hz2⟩ := info_parts info_SignalTile
  go_enter Tryz.func34, Tryz.ntmps34
  go_wp2_with (at_make; refine wpList_make_full _ rfl _ _ 33 rfl w.heap.size 120 i0 (.agg #[.string ⟨#[]⟩, .slice none 0 0, .slice none 0 0, .slice none 0 0]) 4 Tryz.underlying33 hi hz0 hz1 _ _ _ _ n rfl rfl rfl rfl ?qb ?qm ?qbase ?_)
  case qb => rw [hz2]; omega
  case qm => simp only [maxLen]; omega
  case qbase => exact Nat.le_refl _
  intro w1 hown hgr
  have hinv : ToInv R_SignalTile 4 120 w w.heap.size n xs 0 w1 := ToInv.start hown hgr
  clear hown hgr hz0 hz1 hz2
  go_wp2_with fail
  go_loopw [4] (fun i wr => ∃ k : Nat, k ≤ n ∧ i = .int .i64 k ∧ ToInv R_SignalTile 4 120 w w.heap.size n xs k wr) (fun i _ => n - (intOf i).toNat)
  case atStart => exact ⟨0, Nat.zero_le _, rfl, hinv⟩
  case round =>
    obtain ⟨k, hk, rfl, hI⟩ := hrel
    clear hinv
    by_cases hlt : k < n
    · have hkl : k < xs.length := by have := e1.out; omega
      obtain ⟨b, o, A1, c1, f1, A2, c2, f2, A3, c3, f3, rfl, _, g1, g2, g3, q0, q1, q2, q3, s1, s2, s3⟩ := (hx.kb hf hI.below).at_ k hkl
      go_wp2_with fail
      refine (toSignalTile_any wr xs[k] A1 _ c1 f1 s1 (fun x hx => ⟨Nat.zero_le _, Nat.lt_of_lt_of_le (hf x (g1 x hx)).2 hI.below.size⟩) A2 _ c2 f2 s2 (fun x hx => ⟨Nat.zero_le _, Nat.lt_of_lt_of_le (hf x (g2 x hx)).2 hI.below.size⟩) A3 _ c3 f3 s3 (fun x hx => ⟨Nat.zero_le _, Nat.lt_of_lt_of_le (hf x (g3 x hx)).2 hI.below.size⟩) (hlen k hkl)).mono ?_
      rintro e w1 ⟨fp, A1', c1', A2', c2', A3', c3', rfl, hR, hFr, hb1⟩
      have hsg := hb1.block w.heap.size hI.lt
      have hfz := (hI.unf.same hsg).frozen
      obtain ⟨v0, hv0⟩ := hI.cell hsg (k * 4) (by omega)
      obtain ⟨v1, hv1⟩ := hI.cell hsg (k * 4 + 1) (by omega)
      obtain ⟨v2, hv2⟩ := hI.cell hsg (k * 4 + 2) (by omega)
      obtain ⟨v3, hv3⟩ := hI.cell hsg (k * 4 + 3) (by omega)
      go_wp2_with fail
      go_roundw
      case rel => exact ⟨k + 1, by omega, by go_num, by
        have hS := hI.step (R_SignalTile.framed) hkl e1.out hb1 (cs := [.string xs[k].g_Name, .slice A1' _ c1', .slice A2' _ c2', .slice A3' _ c3']) (fp := _) hR rfl hFr
        exact hS⟩
      case measure => simp [intOf]; omega
    · go_wp2_with fail
      go_ret
      obtain ⟨fp, hS, hFr⟩ := hI.done hlt e1.out b1
      rw [← e1.out]
      exact ⟨fp, _, _, rfl, hS, hFr, hI.below⟩

def Len_SignalSet (d : D_SignalSet) : Prop := Len_GlueS d.g_Glues ∧ Len_SignalTileS d.g_Tiles

set_option maxRecDepth 100000 in
set_option maxHeartbeats 1000000 in
theorem toSignalSet_any (w : World) (d : D_SignalSet) (A0 : Option Addr) (n0 c0 : Nat) (f0 : List Nat) (h0 : S_GlueS w f0 (.slice A0 n0 c0) d.g_Glues) (k0 : Within f0 0 w.heap.size) (A1 : Option Addr) (n1 c1 : Nat) (f1 : List Nat) (h1 : S_SignalTileS w f1 (.slice A1 n1 c1) d.g_Tiles) (k1 : Within f1 0 w.heap.size) (hl : Len_SignalSet d) :
    Calls Tryz.prog 9 #[.agg #[.slice A0 n0 c0, .slice A1 n1 c1]] w fun e w' => ∃ fp A0' c0' A1' c1', e = .returned (.agg #[.slice A0' d.g_Glues.length c0', .slice A1' d.g_Tiles.length c1']) ∧ R_SignalSet w' fp [.slice A0' d.g_Glues.length c0', .slice A1' d.g_Tiles.length c1'] d ∧ Fresh w w' fp ∧ Below w.heap.size w w' := by
  obtain ⟨l0, l1⟩ := hl
  obtain ⟨e0, b0, _⟩ := SlOf.n_eq h0
  replace e0 := Lib.hid e0
  obtain ⟨e1, b1, _⟩ := SlOf.n_eq h1
  replace e1 := Lib.hid e1
  go_enter Tryz.func9, Tryz.ntmps9
  go_wp2_with fail
  refine (toGlueS_any _ _ _ _ f0 _ (h0.kb k0 (by exact below3 _ _ _ _)) (k0.wide (Nat.le_refl _) (Below.size (B := w.heap.size) (by exact below3 _ _ _ _))) l0).mono ?_
  rintro e w0 ⟨p0, A0', c0', rfl, hR0, hF0, z0⟩
  have H0 := (z0.block (w.heap.size) (by rw [size3]; omega)).trans (blk3 w _ _ _).1
  have H1 := (z0.block (w.heap.size + 1) (by rw [size3]; omega)).trans (blk3 w _ _ _).2.1
  have H2 := (z0.block (w.heap.size + 1 + 1) (by rw [size3]; omega)).trans (blk3 w _ _ _).2.2
  have lo0 : w.heap.size + 3 ≤ w0.heap.size := heap_lt H2
  have yy0 : Below w.heap.size w w0 := (below3 _ _ _ _).trans (z0.mono (by rw [size3]; omega))
  have C0 := fun j => cell_of_row w0 (w.heap.size) j _ _ _ H0
  have C1 := fun j => cell_of_row w0 (w.heap.size + 1) j _ _ _ H1
  have C2 := fun j => cell_of_row w0 (w.heap.size + 1 + 1) j _ _ _ H2
  have F1 := fun o => Unf.frozen ⟨_, _, H1⟩ o
  have F2 := fun o => Unf.frozen ⟨_, _, H2⟩ o
  replace H0 := Lib.hid H0
  replace H1 := Lib.hid H1
  replace H2 := Lib.hid H2
  go_wp2_with fail
  clear C0 C1 C2 F1 F2
  replace H0 := H0.out
  replace H1 := H1.out
  replace H2 := H2.out
  refine (toSignalTileS_any _ _ _ _ f1 _ (h1.kb k1 (by exact Below.setCell (yy0) (by dsimp only; omega) _)) (k1.wide (Nat.le_refl _) (Below.size (B := w.heap.size) (by exact Below.setCell (yy0) (by dsimp only; omega) _))) l1).mono ?_
  rintro e w1 ⟨p1, A1', c1', rfl, hR1, hF1, z1⟩
  replace H0 := (z1.block (w.heap.size) (by simp only [size_set]; omega)).trans ((Below.heap_setCell _ _ _ _ (by dsimp only; omega)).trans (H0))
  replace H1 := (z1.block (w.heap.size + 1) (by simp only [size_set]; omega)).trans ((Below.heap_setCell _ _ _ _ (by dsimp only; omega)).trans (H1))
  replace H2 := (z1.block (w.heap.size + 1 + 1) (by simp only [size_set]; omega)).trans (heap_setCell_same (H2) _ _)
  simp at H2
  have m1 : w0.heap.size ≤ w1.heap.size := by have := z1.size; simp only [size_set] at this; exact this
  have lo1 : w.heap.size + 3 ≤ w1.heap.size := by omega
  have yy1 : Below w.heap.size w w1 := Below.trans (Below.setCell (yy0) (by dsimp only; omega) _) (z1.mono (by simp only [size_set]; omega))
  have C0 := fun j => cell_of_row w1 (w.heap.size) j _ _ _ H0
  have C1 := fun j => cell_of_row w1 (w.heap.size + 1) j _ _ _ H1
  have C2 := fun j => cell_of_row w1 (w.heap.size + 1 + 1) j _ _ _ H2
  have F1 := fun o => Unf.frozen ⟨_, _, H1⟩ o
  have F2 := fun o => Unf.frozen ⟨_, _, H2⟩ o
  replace H0 := Lib.hid H0
  replace H1 := Lib.hid H1
  replace H2 := Lib.hid H2
  go_wp2_with fail
  refine bodyPost_ret (v := .agg #[.slice A0' d.g_Glues.length c0', .slice A1' d.g_Tiles.length c1']) (by simp [results, Tryz.results9, go_sem, C1]) rfl ?_
  refine ⟨p0 ++ (p1), A0', c0', A1', c1', rfl, ?_⟩
  refine ⟨⟨_, _, _, _, rfl, rfl, SlOf.same R_Glue.framed hR0 (Keep.on (lo := w.heap.size + 3) (hi := w0.heap.size) (Keep.set_ (Keep.set_ (Keep.set_ (Keep.below (Keep.set_ (Keep.refl _ _ _) (by omega) _) z1 (by simp only [size_set]; omega)) (by omega) _) (by omega) _) (by omega) _) (hF0.within.wide (by first | (rw [size3]; omega) | (simp only [size_set]; omega)) (Nat.le_refl _))), SlOf.same R_SignalTile.framed hR1 (Keep.on (lo := w.heap.size + 3) (hi := w1.heap.size) (Keep.set_ (Keep.set_ (Keep.set_ (Keep.refl _ _ _) (by omega) _) (by omega) _) (by omega) _) (hF1.within.wide (by first | (rw [size3]; omega) | (simp only [size_set]; omega)) (Nat.le_refl _)))⟩, ?_, ?_⟩
  · exact FreshAt.fresh (FreshAt.app (hF0.at_ (lo := w.heap.size + 3) (Keep.set_ (Keep.set_ (Keep.set_ (Keep.below (Keep.set_ (Keep.refl _ _ _) (by omega) _) z1 (by simp only [size_set]; omega)) (by omega) _) (by omega) _) (by omega) _) (by first | (rw [size3]; omega) | (simp only [size_set]; omega))) (hF1.at_ (lo := w.heap.size + 3) (Keep.set_ (Keep.set_ (Keep.set_ (Keep.refl _ _ _) (by omega) _) (by omega) _) (by omega) _) (by first | (rw [size3]; omega) | (simp only [size_set]; omega))) (by simp only [size_set]; omega) (by have := z0.size; omega) (by have := z0.size; simp only [size_set] at *; omega)) (by first | (rw [size3]; omega) | (simp only [size_set]; omega)) (by simp only [size_set]; omega)
  · exact Below.setCell (Below.setCell (Below.setCell (yy1) (by dsimp only; omega) _) (by dsimp only; omega) _) (by dsimp only; omega) _


end Go.Proofs.YtpbniieiinhliaaGreat

namespace Go.Proofs.YtpbniieiinhliaaGreat
open Go.RowKit


set_option maxRecDepth 100000 in
set_option maxHeartbeats 1000000 in
theorem eqBoolS_any (w : World) (A A' : Option Addr) (n c n' c' : Nat) (f f' : List Nat) (xs ys : List Bool) (hx : S_BoolS w f (.slice A n c) xs) (hy : S_BoolS w f' (.slice A' n' c') ys) :
    Calls Tryz.prog 80 #[.slice A n c, .slice A' n' c'] w fun e w' => e = .returned (.bool (decide (xs = ys))) ∧ Q w w' := by
  obtain ⟨e1, b1, _⟩ := SlOf.n_eq hx
  obtain ⟨e2, b2, _⟩ := SlOf.n_eq hy
  replace e1 := Lib.hid e1
  replace e2 := Lib.hid e2
  by_cases hn : n = n'
  · subst hn
    go_enter Tryz.func80, Tryz.ntmps80
    go_wp2_with fail
    go_loopw [5] (fun i wr => ∃ k q : Nat, k ≤ n ∧ i = .int .i64 k ∧ wr = w.drewN q ∧ xs.take k = ys.take k) (fun i _ => n - (intOf i).toNat)
    case atStart => exact ⟨0, 0, Nat.zero_le _, rfl, rfl, rfl⟩
    case round =>
      obtain ⟨k, q, hk, rfl, rfl, ht⟩ := hrel
      replace ht := Lib.hid ht
      by_cases hlt : k < n
      · obtain ⟨b, o, rfl, _, hc⟩ := hx.at_ k (by have := e1.out; omega)
        obtain ⟨b', o', rfl, _, hc'⟩ := hy.at_ k (by have := e2.out; omega)
        go_wp2_with fail
        go_quiet (fail)
        go_wp2_with fail
        · rename_i hb
          go_ret
          exact ⟨ret_b (ne_of_get (k := k) (by have := e1.out; omega) (by have := e2.out; omega) (by simpa [bne_iff_ne] using hb)).symm, (Q.n _ _).d _⟩
        · rename_i hb
          go_roundw
          case rel => exact ⟨k + 1, _, by omega, by go_num, rfl, take_ext ht.out (by have := e1.out; omega) (by have := e2.out; omega) (by simpa [bne_iff_ne] using hb)⟩
          case measure => simp [intOf]; omega
      · go_wp2_with fail
        go_ret
        exact ⟨ret_b (eq_of_take ht.out e1.out e2.out hlt), Q.n _ _⟩
  · have hb : ((n : Int) != (n' : Int)) = true := by rw [bne_iff_ne]; omega
    go_enter Tryz.func80, Tryz.ntmps80
    go_wp2_with fail
    go_ret
    exact ⟨ret_b (ne_of_len e1.out e2.out hn).symm, Q.refl _⟩

set_option maxRecDepth 100000 in
set_option maxHeartbeats 1000000 in
theorem eqFire_any (w : World) (a b : D_Fire) :
    Calls Tryz.prog 139 #[.agg #[.int .i64 a.g_From, .int .i64 a.g_To], .agg #[.int .i64 b.g_From, .int .i64 b.g_To]] w fun e w' => e = .returned (.bool (decide (a = b))) ∧ Below w.heap.size w w' := by
  go_enter Tryz.func139, Tryz.ntmps139
  go_wp2_with fail
  all_goals
    go_ret
    refine ⟨ret_b ?_, ((Below.refl _ _).alloc (Nat.le_refl _) _).alloc (by simp) _⟩
    cases a; cases b; simp_all [str_eq]

set_option maxRecDepth 100000 in
set_option maxHeartbeats 1000000 in
theorem eqFireS_any (w : World) (A A' : Option Addr) (n c n' c' : Nat) (f f' : List Nat) (xs ys : List D_Fire) (hx : S_FireS w f (.slice A n c) xs) (hy : S_FireS w f' (.slice A' n' c') ys) (hf : Within f 0 w.heap.size) (hf' : Within f' 0 w.heap.size) :
    Calls Tryz.prog 119 #[.slice A n c, .slice A' n' c'] w fun e w' => e = .returned (.bool (decide (xs = ys))) ∧ Below w.heap.size w w' := by
  obtain ⟨e1, b1, _⟩ := SlOf.n_eq hx
  obtain ⟨e2, b2, _⟩ := SlOf.n_eq hy
  replace e1 := Lib.hid e1
  replace e2 := Lib.hid e2
  by_cases hn : n = n'
  · subst hn
    go_enter Tryz.func119, Tryz.ntmps119
    go_wp2_with fail
    go_loopw [5] (fun i wr => ∃ k : Nat, k ≤ n ∧ i = .int .i64 k ∧ Below w.heap.size w wr ∧ xs.take k = ys.take k) (fun i _ => n - (intOf i).toNat)
    case atStart => exact ⟨0, Nat.zero_le _, rfl, Below.refl _ _, rfl⟩
    case round =>
      obtain ⟨k, hk, rfl, hbel, ht⟩ := hrel
      replace ht := Lib.hid ht
      by_cases hlt : k < n
      · obtain ⟨b, o, rfl, _, q0, q1⟩ := (hx.kb hf hbel).at_ k (by have := e1.out; omega)
        obtain ⟨b', o', rfl, _, q0', q1'⟩ := (hy.kb hf' hbel).at_ k (by have := e2.out; omega)
        go_wp2_with fail
        go_still_tail 8, (by kernel_rfl)
        change wpList _ _ _ _ _ wr.drew
        obtain ⟨w2, hw2⟩ : ∃ w2, w2 = wr.drew := ⟨_, rfl⟩
        rw [← hw2]
        have hbel2 : Below w.heap.size w w2 := by rw [hw2]; exact hbel.drew
        have hbel3 : Below wr.heap.size wr w2 := by rw [hw2]; exact (Below.refl _ _).drew
        clear hw2
        go_wp2_with fail
        refine (eqFire_any _ xs[k] ys[k]).mono ?_
        rintro e w3 ⟨rfl, hb3⟩
        have hb4 : Below w.heap.size w w3 := hbel2.trans (hb3.mono hbel2.size)
        go_wp2_with fail
        · rename_i hb
          go_ret
          exact ⟨ret_b (ne_of_get (k := k) (by have := e1.out; omega) (by have := e2.out; omega) (by simpa using hb)).symm, hb4⟩
        · rename_i hb
          go_roundw
          case rel => exact ⟨k + 1, by omega, by go_num, hb4, take_ext ht.out (by have := e1.out; omega) (by have := e2.out; omega) (by simpa using hb)⟩
          case measure => simp [intOf]; omega
      · go_wp2_with fail
        go_ret
        exact ⟨ret_b (eq_of_take ht.out e1.out e2.out hlt), hbel⟩
  · have hb : ((n : Int) != (n' : Int)) = true := by rw [bne_iff_ne]; omega
    go_enter Tryz.func119, Tryz.ntmps119
    go_wp2_with fail
    go_ret
    exact ⟨ret_b (ne_of_len e1.out e2.out hn).symm, Below.refl _ _⟩

set_option maxRecDepth 100000 in
set_option maxHeartbeats 1000000 in
theorem eqGlue_any (w : World) (a b : D_Glue) :
    Calls Tryz.prog 78 #[.agg #[.string a.g_Name, .int .i64 a.g_Strength], .agg #[.string b.g_Name, .int .i64 b.g_Strength]] w fun e w' => e = .returned (.bool (decide (a = b))) ∧ Below w.heap.size w w' := by
  go_enter Tryz.func78, Tryz.ntmps78
  go_wp2_with fail
  all_goals
    go_ret
    refine ⟨ret_b ?_, ((Below.refl _ _).alloc (Nat.le_refl _) _).alloc (by simp) _⟩
    cases a; cases b; simp_all [str_eq]

set_option maxRecDepth 100000 in
set_option maxHeartbeats 1000000 in
theorem eqGlueS_any (w : World) (A A' : Option Addr) (n c n' c' : Nat) (f f' : List Nat) (xs ys : List D_Glue) (hx : S_GlueS w f (.slice A n c) xs) (hy : S_GlueS w f' (.slice A' n' c') ys) (hf : Within f 0 w.heap.size) (hf' : Within f' 0 w.heap.size) :
    Calls Tryz.prog 39 #[.slice A n c, .slice A' n' c'] w fun e w' => e = .returned (.bool (decide (xs = ys))) ∧ Below w.heap.size w w' := by
  obtain ⟨e1, b1, _⟩ := SlOf.n_eq hx
  obtain ⟨e2, b2, _⟩ := SlOf.n_eq hy
  replace e1 := Lib.hid e1
  replace e2 := Lib.hid e2
  by_cases hn : n = n'
  · subst hn
    go_enter Tryz.func39, Tryz.ntmps39
    go_wp2_with fail
    go_loopw [5] (fun i wr => ∃ k : Nat, k ≤ n ∧ i = .int .i64 k ∧ Below w.heap.size w wr ∧ xs.take k = ys.take k) (fun i _ => n - (intOf i).toNat)
    case atStart => exact ⟨0, Nat.zero_le _, rfl, Below.refl _ _, rfl⟩
    case round =>
      obtain ⟨k, hk, rfl, hbel, ht⟩ := hrel
      replace ht := Lib.hid ht
      by_cases hlt : k < n
      · obtain ⟨b, o, rfl, _, q0, q1⟩ := (hx.kb hf hbel).at_ k (by have := e1.out; omega)
        obtain ⟨b', o', rfl, _, q0', q1'⟩ := (hy.kb hf' hbel).at_ k (by have := e2.out; omega)
        go_wp2_with fail
        go_still_tail 8, (by kernel_rfl)
        change wpList _ _ _ _ _ wr.drew
        obtain ⟨w2, hw2⟩ : ∃ w2, w2 = wr.drew := ⟨_, rfl⟩
        rw [← hw2]
        have hbel2 : Below w.heap.size w w2 := by rw [hw2]; exact hbel.drew
        have hbel3 : Below wr.heap.size wr w2 := by rw [hw2]; exact (Below.refl _ _).drew
        clear hw2
        go_wp2_with fail
        refine (eqGlue_any _ xs[k] ys[k]).mono ?_
        rintro e w3 ⟨rfl, hb3⟩
        have hb4 : Below w.heap.size w w3 := hbel2.trans (hb3.mono hbel2.size)
        go_wp2_with fail
        · rename_i hb
          go_ret
          exact ⟨ret_b (ne_of_get (k := k) (by have := e1.out; omega) (by have := e2.out; omega) (by simpa using hb)).symm, hb4⟩
        · rename_i hb
          go_roundw
          case rel => exact ⟨k + 1, by omega, by go_num, hb4, take_ext ht.out (by have := e1.out; omega) (by have := e2.out; omega) (by simpa using hb)⟩
          case measure => simp [intOf]; omega
      · go_wp2_with fail
        go_ret
        exact ⟨ret_b (eq_of_take ht.out e1.out e2.out hlt), hbel⟩
  · have hb : ((n : Int) != (n' : Int)) = true := by rw [bne_iff_ne]; omega
    go_enter Tryz.func39, Tryz.ntmps39
    go_wp2_with fail
    go_ret
    exact ⟨ret_b (ne_of_len e1.out e2.out hn).symm, Below.refl _ _⟩

set_option maxRecDepth 100000 in
set_option maxHeartbeats 1000000 in
theorem eqInt64S_any (w : World) (A A' : Option Addr) (n c n' c' : Nat) (f f' : List Nat) (xs ys : List Int) (hx : S_Int64S w f (.slice A n c) xs) (hy : S_Int64S w f' (.slice A' n' c') ys) :
    Calls Tryz.prog 26 #[.slice A n c, .slice A' n' c'] w fun e w' => e = .returned (.bool (decide (xs = ys))) ∧ Q w w' := by
  obtain ⟨e1, b1, _⟩ := SlOf.n_eq hx
  obtain ⟨e2, b2, _⟩ := SlOf.n_eq hy
  replace e1 := Lib.hid e1
  replace e2 := Lib.hid e2
  by_cases hn : n = n'
  · subst hn
    go_enter Tryz.func26, Tryz.ntmps26
    go_wp2_with fail
    go_loopw [5] (fun i wr => ∃ k q : Nat, k ≤ n ∧ i = .int .i64 k ∧ wr = w.drewN q ∧ xs.take k = ys.take k) (fun i _ => n - (intOf i).toNat)
    case atStart => exact ⟨0, 0, Nat.zero_le _, rfl, rfl, rfl⟩
    case round =>
      obtain ⟨k, q, hk, rfl, rfl, ht⟩ := hrel
      replace ht := Lib.hid ht
      by_cases hlt : k < n
      · obtain ⟨b, o, rfl, _, hc⟩ := hx.at_ k (by have := e1.out; omega)
        obtain ⟨b', o', rfl, _, hc'⟩ := hy.at_ k (by have := e2.out; omega)
        go_wp2_with fail
        go_quiet (fail)
        go_wp2_with fail
        · rename_i hb
          go_ret
          exact ⟨ret_b (ne_of_get (k := k) (by have := e1.out; omega) (by have := e2.out; omega) (by simpa [bne_iff_ne] using hb)).symm, (Q.n _ _).d _⟩
        · rename_i hb
          go_roundw
          case rel => exact ⟨k + 1, _, by omega, by go_num, rfl, take_ext ht.out (by have := e1.out; omega) (by have := e2.out; omega) (by simpa [bne_iff_ne] using hb)⟩
          case measure => simp [intOf]; omega
      · go_wp2_with fail
        go_ret
        exact ⟨ret_b (eq_of_take ht.out e1.out e2.out hlt), Q.n _ _⟩
  · have hb : ((n : Int) != (n' : Int)) = true := by rw [bne_iff_ne]; omega
    go_enter Tryz.func26, Tryz.ntmps26
    go_wp2_with fail
    go_ret
    exact ⟨ret_b (ne_of_len e1.out e2.out hn).symm, Q.refl _⟩

set_option maxRecDepth 100000 in
set_option maxHeartbeats 1000000 in
theorem eqPoint_any (w : World) (a b : D_Point) :
    Calls Tryz.prog 77 #[.agg #[.int .i64 a.g_X, .int .i64 a.g_Y], .agg #[.int .i64 b.g_X, .int .i64 b.g_Y]] w fun e w' => e = .returned (.bool (decide (a = b))) ∧ Below w.heap.size w w' := by
  go_enter Tryz.func77, Tryz.ntmps77
  go_wp2_with fail
  all_goals
    go_ret
    refine ⟨ret_b ?_, ((Below.refl _ _).alloc (Nat.le_refl _) _).alloc (by simp) _⟩
    cases a; cases b; simp_all [str_eq]

set_option maxRecDepth 100000 in
set_option maxHeartbeats 1000000 in
theorem eqSignalCell_any (w : World) (a b : D_SignalCell) (A3 : Option Addr) (n3 c3 : Nat) (f3 : List Nat) (h3 : S_BoolS w f3 (.slice A3 n3 c3) a.g_On) (k3 : Within f3 0 w.heap.size) (A4 : Option Addr) (n4 c4 : Nat) (f4 : List Nat) (h4 : S_BoolS w f4 (.slice A4 n4 c4) a.g_Bound) (k4 : Within f4 0 w.heap.size) (A5 : Option Addr) (n5 c5 : Nat) (f5 : List Nat) (h5 : S_BoolS w f5 (.slice A5 n5 c5) a.g_Fired) (k5 : Within f5 0 w.heap.size) (A3' : Option Addr) (n3' c3' : Nat) (f3' : List Nat) (h3' : S_BoolS w f3' (.slice A3' n3' c3') b.g_On) (k3' : Within f3' 0 w.heap.size) (A4' : Option Addr) (n4' c4' : Nat) (f4' : List Nat) (h4' : S_BoolS w f4' (.slice A4' n4' c4') b.g_Bound) (k4' : Within f4' 0 w.heap.size) (A5' : Option Addr) (n5' c5' : Nat) (f5' : List Nat) (h5' : S_BoolS w f5' (.slice A5' n5' c5') b.g_Fired) (k5' : Within f5' 0 w.heap.size) :
    Calls Tryz.prog 41 #[.agg #[.int .i64 a.g_At.g_X, .int .i64 a.g_At.g_Y, .int .i64 a.g_Tile, .slice A3 n3 c3, .slice A4 n4 c4, .slice A5 n5 c5], .agg #[.int .i64 b.g_At.g_X, .int .i64 b.g_At.g_Y, .int .i64 b.g_Tile, .slice A3' n3' c3', .slice A4' n4' c4', .slice A5' n5' c5']] w fun e w' => e = .returned (.bool (decide (a = b))) ∧ Below w.heap.size w w' := by
  have y0 : Below w.heap.size w ((w.alloc (.cells #[.int .i64 a.g_At.g_X, .int .i64 a.g_At.g_Y, .int .i64 a.g_Tile, .slice A3 n3 c3, .slice A4 n4 c4, .slice A5 n5 c5] 76)).alloc (.cells #[.int .i64 b.g_At.g_X, .int .i64 b.g_At.g_Y, .int .i64 b.g_Tile, .slice A3' n3' c3', .slice A4' n4' c4', .slice A5' n5' c5'] 76)) := ((Below.refl _ _).alloc (Nat.le_refl _) _).alloc (by simp) _
  go_enter Tryz.func41, Tryz.ntmps41
  go_wp2_with fail
  refine (eqPoint_any _ a.g_At b.g_At).mono ?_
  rintro e w0 ⟨rfl, z0⟩
  have y1 := y0.trans (z0.mono y0.size)
  have u0 := fun o => z0.cell (p := ⟨w.heap.size, o, none⟩) (by first | (simp; done) | (simp; omega) | exact S0)
  have x0 := fun o => z0.cell (p := ⟨w.heap.size + 1, o, none⟩) (by first | (simp; done) | (simp; omega) | exact S1)
  have S1 : w.heap.size + 1 < w0.heap.size := Nat.lt_of_lt_of_le (by first | (simp; done) | (simp; omega) | exact S1) z0.size
  have S0 : w.heap.size < w0.heap.size := by omega
  by_cases t0 : a.g_At = b.g_At
  case neg =>
    rw [decide_eq_false t0]
    go_wp2_with fail
    go_ret
    exact ⟨ret_b (by rw [eq_comm, decide_eq_false_iff_not]; rintro rfl; exact t0 rfl), y1⟩
  rw [decide_eq_true t0]
  replace t0 := Lib.hid t0
  by_cases t1 : a.g_Tile = b.g_Tile
  case neg =>
    have t1' : (a.g_Tile != b.g_Tile) = true := by simpa using t1
    go_wp2_with fail
    go_ret
    exact ⟨ret_b (by rw [eq_comm, decide_eq_false_iff_not]; rintro rfl; exact t1 rfl), y1⟩
  have t1' : (a.g_Tile != b.g_Tile) = false := by simpa using t1
  replace t1 := Lib.hid t1
  go_wp2_with fail
  refine (eqBoolS_any _ _ _ _ _ _ _ f3 f3' _ _ (h3.kb k3 y1) (h3'.kb k3' y1)).mono ?_
  rintro e w2 ⟨rfl, z2⟩
  replace z2 := z2.below
  have y3 := y1.trans (z2.mono y1.size)
  have u2 := fun o => z2.cell (p := ⟨w.heap.size, o, none⟩) (by first | (simp; done) | (simp; omega) | exact S0)
  have x2 := fun o => z2.cell (p := ⟨w.heap.size + 1, o, none⟩) (by first | (simp; done) | (simp; omega) | exact S1)
  have S1 : w.heap.size + 1 < w2.heap.size := Nat.lt_of_lt_of_le (by first | (simp; done) | (simp; omega) | exact S1) z2.size
  have S0 : w.heap.size < w2.heap.size := by omega
  by_cases t2 : a.g_On = b.g_On
  case neg =>
    rw [decide_eq_false t2]
    go_wp2_with fail
    go_ret
    exact ⟨ret_b (by rw [eq_comm, decide_eq_false_iff_not]; rintro rfl; exact t2 rfl), y3⟩
  rw [decide_eq_true t2]
  replace t2 := Lib.hid t2
  go_wp2_with fail
  refine (eqBoolS_any _ _ _ _ _ _ _ f4 f4' _ _ (h4.kb k4 y3) (h4'.kb k4' y3)).mono ?_
  rintro e w3 ⟨rfl, z3⟩
  replace z3 := z3.below
  have y4 := y3.trans (z3.mono y3.size)
  have u3 := fun o => z3.cell (p := ⟨w.heap.size, o, none⟩) (by first | (simp; done) | (simp; omega) | exact S0)
  have x3 := fun o => z3.cell (p := ⟨w.heap.size + 1, o, none⟩) (by first | (simp; done) | (simp; omega) | exact S1)
  have S1 : w.heap.size + 1 < w3.heap.size := Nat.lt_of_lt_of_le (by first | (simp; done) | (simp; omega) | exact S1) z3.size
  have S0 : w.heap.size < w3.heap.size := by omega
  by_cases t3 : a.g_Bound = b.g_Bound
  case neg =>
    rw [decide_eq_false t3]
    go_wp2_with fail
    go_ret
    exact ⟨ret_b (by rw [eq_comm, decide_eq_false_iff_not]; rintro rfl; exact t3 rfl), y4⟩
  rw [decide_eq_true t3]
  replace t3 := Lib.hid t3
  go_wp2_with fail
  refine (eqBoolS_any _ _ _ _ _ _ _ f5 f5' _ _ (h5.kb k5 y4) (h5'.kb k5' y4)).mono ?_
  rintro e w4 ⟨rfl, z4⟩
  replace z4 := z4.below
  have y5 := y4.trans (z4.mono y4.size)
  have u4 := fun o => z4.cell (p := ⟨w.heap.size, o, none⟩) (by first | (simp; done) | (simp; omega) | exact S0)
  have x4 := fun o => z4.cell (p := ⟨w.heap.size + 1, o, none⟩) (by first | (simp; done) | (simp; omega) | exact S1)
  have S1 : w.heap.size + 1 < w4.heap.size := Nat.lt_of_lt_of_le (by first | (simp; done) | (simp; omega) | exact S1) z4.size
  have S0 : w.heap.size < w4.heap.size := by omega
  by_cases t4 : a.g_Fired = b.g_Fired
  case neg =>
    rw [decide_eq_false t4]
    go_wp2_with fail
    go_ret
    exact ⟨ret_b (by rw [eq_comm, decide_eq_false_iff_not]; rintro rfl; exact t4 rfl), y5⟩
  rw [decide_eq_true t4]
  replace t4 := Lib.hid t4
  go_wp2_with fail
  go_ret
  refine ⟨ret_b ?_, y5⟩
  have hab : a = b := by cases a; cases b; have v0 := t0.out; have v1 := t1.out; have v2 := t2.out; have v3 := t3.out; have v4 := t4.out; simp_all
  rw [hab]; simp

set_option maxRecDepth 100000 in
set_option maxHeartbeats 1000000 in
theorem eqSignalCellS_any (w : World) (A A' : Option Addr) (n c n' c' : Nat) (f f' : List Nat) (xs ys : List D_SignalCell) (hx : S_SignalCellS w f (.slice A n c) xs) (hy : S_SignalCellS w f' (.slice A' n' c') ys) (hf : Within f 0 w.heap.size) (hf' : Within f' 0 w.heap.size) :
    Calls Tryz.prog 14 #[.slice A n c, .slice A' n' c'] w fun e w' => e = .returned (.bool (decide (xs = ys))) ∧ Below w.heap.size w w' := by
  obtain ⟨e1, b1, _⟩ := SlOf.n_eq hx
  obtain ⟨e2, b2, _⟩ := SlOf.n_eq hy
  replace e1 := Lib.hid e1
  replace e2 := Lib.hid e2
  by_cases hn : n = n'
  · subst hn
    go_enter Tryz.func14, Tryz.ntmps14
    go_wp2_with fail
    go_loopw [5] (fun i wr => ∃ k : Nat, k ≤ n ∧ i = .int .i64 k ∧ Below w.heap.size w wr ∧ xs.take k = ys.take k) (fun i _ => n - (intOf i).toNat)
    case atStart => exact ⟨0, Nat.zero_le _, rfl, Below.refl _ _, rfl⟩
    case round =>
      obtain ⟨k, hk, rfl, hbel, ht⟩ := hrel
      replace ht := Lib.hid ht
      by_cases hlt : k < n
      · obtain ⟨b, o, A3, c3, f3, A4, c4, f4, A5, c5, f5, rfl, _, g3, g4, g5, q0, q1, q2, q3, q4, q5, s3, s4, s5⟩ := (hx.kb hf hbel).at_ k (by have := e1.out; omega)
        obtain ⟨b', o', A3', c3', f3', A4', c4', f4', A5', c5', f5', rfl, _, g3', g4', g5', q0', q1', q2', q3', q4', q5', s3', s4', s5'⟩ := (hy.kb hf' hbel).at_ k (by have := e2.out; omega)
        go_wp2_with fail
        go_still_tail 8, (by kernel_rfl)
        change wpList _ _ _ _ _ wr.drew
        obtain ⟨w2, hw2⟩ : ∃ w2, w2 = wr.drew := ⟨_, rfl⟩
        rw [← hw2]
        have hbel2 : Below w.heap.size w w2 := by rw [hw2]; exact hbel.drew
        have hbel3 : Below wr.heap.size wr w2 := by rw [hw2]; exact (Below.refl _ _).drew
        clear hw2
        go_wp2_with fail
        refine (eqSignalCell_any _ xs[k] ys[k] A3 _ c3 f3 (s3.kb ((fun x hx => ⟨Nat.zero_le _, Nat.lt_of_lt_of_le (hf x (g3 x hx)).2 hbel.size⟩)) hbel3) (fun x hx => ⟨Nat.zero_le _, Nat.lt_of_lt_of_le (hf x (g3 x hx)).2 hbel2.size⟩) A4 _ c4 f4 (s4.kb ((fun x hx => ⟨Nat.zero_le _, Nat.lt_of_lt_of_le (hf x (g4 x hx)).2 hbel.size⟩)) hbel3) (fun x hx => ⟨Nat.zero_le _, Nat.lt_of_lt_of_le (hf x (g4 x hx)).2 hbel2.size⟩) A5 _ c5 f5 (s5.kb ((fun x hx => ⟨Nat.zero_le _, Nat.lt_of_lt_of_le (hf x (g5 x hx)).2 hbel.size⟩)) hbel3) (fun x hx => ⟨Nat.zero_le _, Nat.lt_of_lt_of_le (hf x (g5 x hx)).2 hbel2.size⟩) A3' _ c3' f3' (s3'.kb ((fun x hx => ⟨Nat.zero_le _, Nat.lt_of_lt_of_le (hf' x (g3' x hx)).2 hbel.size⟩)) hbel3) (fun x hx => ⟨Nat.zero_le _, Nat.lt_of_lt_of_le (hf' x (g3' x hx)).2 hbel2.size⟩) A4' _ c4' f4' (s4'.kb ((fun x hx => ⟨Nat.zero_le _, Nat.lt_of_lt_of_le (hf' x (g4' x hx)).2 hbel.size⟩)) hbel3) (fun x hx => ⟨Nat.zero_le _, Nat.lt_of_lt_of_le (hf' x (g4' x hx)).2 hbel2.size⟩) A5' _ c5' f5' (s5'.kb ((fun x hx => ⟨Nat.zero_le _, Nat.lt_of_lt_of_le (hf' x (g5' x hx)).2 hbel.size⟩)) hbel3) (fun x hx => ⟨Nat.zero_le _, Nat.lt_of_lt_of_le (hf' x (g5' x hx)).2 hbel2.size⟩)).mono ?_
        rintro e w3 ⟨rfl, hb3⟩
        have hb4 : Below w.heap.size w w3 := hbel2.trans (hb3.mono hbel2.size)
        go_wp2_with fail
        · rename_i hb
          go_ret
          exact ⟨ret_b (ne_of_get (k := k) (by have := e1.out; omega) (by have := e2.out; omega) (by simpa using hb)).symm, hb4⟩
        · rename_i hb
          go_roundw
          case rel => exact ⟨k + 1, by omega, by go_num, hb4, take_ext ht.out (by have := e1.out; omega) (by have := e2.out; omega) (by simpa using hb)⟩
          case measure => simp [intOf]; omega
      · go_wp2_with fail
        go_ret
        exact ⟨ret_b (eq_of_take ht.out e1.out e2.out hlt), hbel⟩
  · have hb : ((n : Int) != (n' : Int)) = true := by rw [bne_iff_ne]; omega
    go_enter Tryz.func14, Tryz.ntmps14
    go_wp2_with fail
    go_ret
    exact ⟨ret_b (ne_of_len e1.out e2.out hn).symm, Below.refl _ _⟩

set_option maxRecDepth 100000 in
set_option maxHeartbeats 1000000 in
theorem eqSignalTile_any (w : World) (a b : D_SignalTile) (A1 : Option Addr) (n1 c1 : Nat) (f1 : List Nat) (h1 : S_Int64S w f1 (.slice A1 n1 c1) a.g_Sides) (k1 : Within f1 0 w.heap.size) (A2 : Option Addr) (n2 c2 : Nat) (f2 : List Nat) (h2 : S_BoolS w f2 (.slice A2 n2 c2) a.g_On) (k2 : Within f2 0 w.heap.size) (A3 : Option Addr) (n3 c3 : Nat) (f3 : List Nat) (h3 : S_FireS w f3 (.slice A3 n3 c3) a.g_Fires) (k3 : Within f3 0 w.heap.size) (A1' : Option Addr) (n1' c1' : Nat) (f1' : List Nat) (h1' : S_Int64S w f1' (.slice A1' n1' c1') b.g_Sides) (k1' : Within f1' 0 w.heap.size) (A2' : Option Addr) (n2' c2' : Nat) (f2' : List Nat) (h2' : S_BoolS w f2' (.slice A2' n2' c2') b.g_On) (k2' : Within f2' 0 w.heap.size) (A3' : Option Addr) (n3' c3' : Nat) (f3' : List Nat) (h3' : S_FireS w f3' (.slice A3' n3' c3') b.g_Fires) (k3' : Within f3' 0 w.heap.size) :
    Calls Tryz.prog 79 #[.agg #[.string a.g_Name, .slice A1 n1 c1, .slice A2 n2 c2, .slice A3 n3 c3], .agg #[.string b.g_Name, .slice A1' n1' c1', .slice A2' n2' c2', .slice A3' n3' c3']] w fun e w' => e = .returned (.bool (decide (a = b))) ∧ Below w.heap.size w w' := by
  have y0 : Below w.heap.size w ((w.alloc (.cells #[.string a.g_Name, .slice A1 n1 c1, .slice A2 n2 c2, .slice A3 n3 c3] 120)).alloc (.cells #[.string b.g_Name, .slice A1' n1' c1', .slice A2' n2' c2', .slice A3' n3' c3'] 120)) := ((Below.refl _ _).alloc (Nat.le_refl _) _).alloc (by simp) _
  go_enter Tryz.func79, Tryz.ntmps79
  by_cases t0 : a.g_Name = b.g_Name
  case neg =>
    have t0' : (a.g_Name.toList == b.g_Name.toList) = false := by rw [str_eq]; simpa using t0
    go_wp2_with fail
    go_ret
    exact ⟨ret_b (by rw [eq_comm, decide_eq_false_iff_not]; rintro rfl; exact t0 rfl), y0⟩
  have t0' : (a.g_Name.toList == b.g_Name.toList) = true := by rw [str_eq]; simpa using t0
  replace t0 := Lib.hid t0
  go_wp2_with fail
  refine (eqInt64S_any _ _ _ _ _ _ _ f1 f1' _ _ (h1.kb k1 y0) (h1'.kb k1' y0)).mono ?_
  rintro e w1 ⟨rfl, z1⟩
  replace z1 := z1.below
  have y2 := y0.trans (z1.mono y0.size)
  have u1 := fun o => z1.cell (p := ⟨w.heap.size, o, none⟩) (by first | (simp; done) | (simp; omega) | exact S0)
  have x1 := fun o => z1.cell (p := ⟨w.heap.size + 1, o, none⟩) (by first | (simp; done) | (simp; omega) | exact S1)
  have S1 : w.heap.size + 1 < w1.heap.size := Nat.lt_of_lt_of_le (by first | (simp; done) | (simp; omega) | exact S1) z1.size
  have S0 : w.heap.size < w1.heap.size := by omega
  by_cases t1 : a.g_Sides = b.g_Sides
  case neg =>
    rw [decide_eq_false t1]
    go_wp2_with fail
    go_ret
    exact ⟨ret_b (by rw [eq_comm, decide_eq_false_iff_not]; rintro rfl; exact t1 rfl), y2⟩
  rw [decide_eq_true t1]
  replace t1 := Lib.hid t1
  go_wp2_with fail
  refine (eqBoolS_any _ _ _ _ _ _ _ f2 f2' _ _ (h2.kb k2 y2) (h2'.kb k2' y2)).mono ?_
  rintro e w2 ⟨rfl, z2⟩
  replace z2 := z2.below
  have y3 := y2.trans (z2.mono y2.size)
  have u2 := fun o => z2.cell (p := ⟨w.heap.size, o, none⟩) (by first | (simp; done) | (simp; omega) | exact S0)
  have x2 := fun o => z2.cell (p := ⟨w.heap.size + 1, o, none⟩) (by first | (simp; done) | (simp; omega) | exact S1)
  have S1 : w.heap.size + 1 < w2.heap.size := Nat.lt_of_lt_of_le (by first | (simp; done) | (simp; omega) | exact S1) z2.size
  have S0 : w.heap.size < w2.heap.size := by omega
  by_cases t2 : a.g_On = b.g_On
  case neg =>
    rw [decide_eq_false t2]
    go_wp2_with fail
    go_ret
    exact ⟨ret_b (by rw [eq_comm, decide_eq_false_iff_not]; rintro rfl; exact t2 rfl), y3⟩
  rw [decide_eq_true t2]
  replace t2 := Lib.hid t2
  go_wp2_with fail
  refine (eqFireS_any _ _ _ _ _ _ _ f3 f3' _ _ (h3.kb k3 y3) (h3'.kb k3' y3) (k3.wide (Nat.le_refl _) y3.size) (k3'.wide (Nat.le_refl _) y3.size)).mono ?_
  rintro e w3 ⟨rfl, z3⟩
  have y4 := y3.trans (z3.mono y3.size)
  have u3 := fun o => z3.cell (p := ⟨w.heap.size, o, none⟩) (by first | (simp; done) | (simp; omega) | exact S0)
  have x3 := fun o => z3.cell (p := ⟨w.heap.size + 1, o, none⟩) (by first | (simp; done) | (simp; omega) | exact S1)
  have S1 : w.heap.size + 1 < w3.heap.size := Nat.lt_of_lt_of_le (by first | (simp; done) | (simp; omega) | exact S1) z3.size
  have S0 : w.heap.size < w3.heap.size := by omega
  by_cases t3 : a.g_Fires = b.g_Fires
  case neg =>
    rw [decide_eq_false t3]
    go_wp2_with fail
    go_ret
    exact ⟨ret_b (by rw [eq_comm, decide_eq_false_iff_not]; rintro rfl; exact t3 rfl), y4⟩
  rw [decide_eq_true t3]
  replace t3 := Lib.hid t3
  go_wp2_with fail
  go_ret
  refine ⟨ret_b ?_, y4⟩
  have hab : a = b := by cases a; cases b; have v0 := t0.out; have v1 := t1.out; have v2 := t2.out; have v3 := t3.out; simp_all
  rw [hab]; simp

set_option maxRecDepth 100000 in
set_option maxHeartbeats 1000000 in
theorem eqSignalTileS_any (w : World) (A A' : Option Addr) (n c n' c' : Nat) (f f' : List Nat) (xs ys : List D_SignalTile) (hx : S_SignalTileS w f (.slice A n c) xs) (hy : S_SignalTileS w f' (.slice A' n' c') ys) (hf : Within f 0 w.heap.size) (hf' : Within f' 0 w.heap.size) :
    Calls Tryz.prog 40 #[.slice A n c, .slice A' n' c'] w fun e w' => e = .returned (.bool (decide (xs = ys))) ∧ Below w.heap.size w w' := by
  obtain ⟨e1, b1, _⟩ := SlOf.n_eq hx
  obtain ⟨e2, b2, _⟩ := SlOf.n_eq hy
  replace e1 := Lib.hid e1
  replace e2 := Lib.hid e2
  by_cases hn : n = n'
  · subst hn
    go_enter Tryz.func40, Tryz.ntmps40
    go_wp2_with fail
    go_loopw [5] (fun i wr => ∃ k : Nat, k ≤ n ∧ i = .int .i64 k ∧ Below w.heap.size w wr ∧ xs.take k = ys.take k) (fun i _ => n - (intOf i).toNat)
    case atStart => exact ⟨0, Nat.zero_le _, rfl, Below.refl _ _, rfl⟩
    case round =>
      obtain ⟨k, hk, rfl, hbel, ht⟩ := hrel
      replace ht := Lib.hid ht
      by_cases hlt : k < n
      · obtain ⟨b, o, A1, c1, f1, A2, c2, f2, A3, c3, f3, rfl, _, g1, g2, g3, q0, q1, q2, q3, s1, s2, s3⟩ := (hx.kb hf hbel).at_ k (by have := e1.out; omega)
        obtain ⟨b', o', A1', c1', f1', A2', c2', f2', A3', c3', f3', rfl, _, g1', g2', g3', q0', q1', q2', q3', s1', s2', s3'⟩ := (hy.kb hf' hbel).at_ k (by have := e2.out; omega)
        go_wp2_with fail
        go_still_tail 8, (by kernel_rfl)
        change wpList _ _ _ _ _ wr.drew
        obtain ⟨w2, hw2⟩ : ∃ w2, w2 = wr.drew := ⟨_, rfl⟩
        rw [← hw2]
        have hbel2 : Below w.heap.size w w2 := by rw [hw2]; exact hbel.drew
        have hbel3 : Below wr.heap.size wr w2 := by rw [hw2]; exact (Below.refl _ _).drew
        clear hw2
        go_wp2_with fail
        refine (eqSignalTile_any _ xs[k] ys[k] A1 _ c1 f1 (s1.kb ((fun x hx => ⟨Nat.zero_le _, Nat.lt_of_lt_of_le (hf x (g1 x hx)).2 hbel.size⟩)) hbel3) (fun x hx => ⟨Nat.zero_le _, Nat.lt_of_lt_of_le (hf x (g1 x hx)).2 hbel2.size⟩) A2 _ c2 f2 (s2.kb ((fun x hx => ⟨Nat.zero_le _, Nat.lt_of_lt_of_le (hf x (g2 x hx)).2 hbel.size⟩)) hbel3) (fun x hx => ⟨Nat.zero_le _, Nat.lt_of_lt_of_le (hf x (g2 x hx)).2 hbel2.size⟩) A3 _ c3 f3 (s3.kb ((fun x hx => ⟨Nat.zero_le _, Nat.lt_of_lt_of_le (hf x (g3 x hx)).2 hbel.size⟩)) hbel3) (fun x hx => ⟨Nat.zero_le _, Nat.lt_of_lt_of_le (hf x (g3 x hx)).2 hbel2.size⟩) A1' _ c1' f1' (s1'.kb ((fun x hx => ⟨Nat.zero_le _, Nat.lt_of_lt_of_le (hf' x (g1' x hx)).2 hbel.size⟩)) hbel3) (fun x hx => ⟨Nat.zero_le _, Nat.lt_of_lt_of_le (hf' x (g1' x hx)).2 hbel2.size⟩) A2' _ c2' f2' (s2'.kb ((fun x hx => ⟨Nat.zero_le _, Nat.lt_of_lt_of_le (hf' x (g2' x hx)).2 hbel.size⟩)) hbel3) (fun x hx => ⟨Nat.zero_le _, Nat.lt_of_lt_of_le (hf' x (g2' x hx)).2 hbel2.size⟩) A3' _ c3' f3' (s3'.kb ((fun x hx => ⟨Nat.zero_le _, Nat.lt_of_lt_of_le (hf' x (g3' x hx)).2 hbel.size⟩)) hbel3) (fun x hx => ⟨Nat.zero_le _, Nat.lt_of_lt_of_le (hf' x (g3' x hx)).2 hbel2.size⟩)).mono ?_
        rintro e w3 ⟨rfl, hb3⟩
        have hb4 : Below w.heap.size w w3 := hbel2.trans (hb3.mono hbel2.size)
        go_wp2_with fail
        · rename_i hb
          go_ret
          exact ⟨ret_b (ne_of_get (k := k) (by have := e1.out; omega) (by have := e2.out; omega) (by simpa using hb)).symm, hb4⟩
        · rename_i hb
          go_roundw
          case rel => exact ⟨k + 1, by omega, by go_num, hb4, take_ext ht.out (by have := e1.out; omega) (by have := e2.out; omega) (by simpa using hb)⟩
          case measure => simp [intOf]; omega
      · go_wp2_with fail
        go_ret
        exact ⟨ret_b (eq_of_take ht.out e1.out e2.out hlt), hbel⟩
  · have hb : ((n : Int) != (n' : Int)) = true := by rw [bne_iff_ne]; omega
    go_enter Tryz.func40, Tryz.ntmps40
    go_wp2_with fail
    go_ret
    exact ⟨ret_b (ne_of_len e1.out e2.out hn).symm, Below.refl _ _⟩

set_option maxRecDepth 100000 in
set_option maxHeartbeats 1000000 in
theorem eqSignalSet_any (w : World) (a b : D_SignalSet) (A0 : Option Addr) (n0 c0 : Nat) (f0 : List Nat) (h0 : S_GlueS w f0 (.slice A0 n0 c0) a.g_Glues) (k0 : Within f0 0 w.heap.size) (A1 : Option Addr) (n1 c1 : Nat) (f1 : List Nat) (h1 : S_SignalTileS w f1 (.slice A1 n1 c1) a.g_Tiles) (k1 : Within f1 0 w.heap.size) (A0' : Option Addr) (n0' c0' : Nat) (f0' : List Nat) (h0' : S_GlueS w f0' (.slice A0' n0' c0') b.g_Glues) (k0' : Within f0' 0 w.heap.size) (A1' : Option Addr) (n1' c1' : Nat) (f1' : List Nat) (h1' : S_SignalTileS w f1' (.slice A1' n1' c1') b.g_Tiles) (k1' : Within f1' 0 w.heap.size) :
    Calls Tryz.prog 13 #[.agg #[.slice A0 n0 c0, .slice A1 n1 c1], .agg #[.slice A0' n0' c0', .slice A1' n1' c1']] w fun e w' => e = .returned (.bool (decide (a = b))) ∧ Below w.heap.size w w' := by
  have y0 : Below w.heap.size w ((w.alloc (.cells #[.slice A0 n0 c0, .slice A1 n1 c1] 35)).alloc (.cells #[.slice A0' n0' c0', .slice A1' n1' c1'] 35)) := ((Below.refl _ _).alloc (Nat.le_refl _) _).alloc (by simp) _
  go_enter Tryz.func13, Tryz.ntmps13
  go_wp2_with fail
  refine (eqGlueS_any _ _ _ _ _ _ _ f0 f0' _ _ (h0.kb k0 y0) (h0'.kb k0' y0) (k0.wide (Nat.le_refl _) y0.size) (k0'.wide (Nat.le_refl _) y0.size)).mono ?_
  rintro e w0 ⟨rfl, z0⟩
  have y1 := y0.trans (z0.mono y0.size)
  have u0 := fun o => z0.cell (p := ⟨w.heap.size, o, none⟩) (by first | (simp; done) | (simp; omega) | exact S0)
  have x0 := fun o => z0.cell (p := ⟨w.heap.size + 1, o, none⟩) (by first | (simp; done) | (simp; omega) | exact S1)
  have S1 : w.heap.size + 1 < w0.heap.size := Nat.lt_of_lt_of_le (by first | (simp; done) | (simp; omega) | exact S1) z0.size
  have S0 : w.heap.size < w0.heap.size := by omega
  by_cases t0 : a.g_Glues = b.g_Glues
  case neg =>
    rw [decide_eq_false t0]
    go_wp2_with fail
    go_ret
    exact ⟨ret_b (by rw [eq_comm, decide_eq_false_iff_not]; rintro rfl; exact t0 rfl), y1⟩
  rw [decide_eq_true t0]
  replace t0 := Lib.hid t0
  go_wp2_with fail
  refine (eqSignalTileS_any _ _ _ _ _ _ _ f1 f1' _ _ (h1.kb k1 y1) (h1'.kb k1' y1) (k1.wide (Nat.le_refl _) y1.size) (k1'.wide (Nat.le_refl _) y1.size)).mono ?_
  rintro e w1 ⟨rfl, z1⟩
  have y2 := y1.trans (z1.mono y1.size)
  have u1 := fun o => z1.cell (p := ⟨w.heap.size, o, none⟩) (by first | (simp; done) | (simp; omega) | exact S0)
  have x1 := fun o => z1.cell (p := ⟨w.heap.size + 1, o, none⟩) (by first | (simp; done) | (simp; omega) | exact S1)
  have S1 : w.heap.size + 1 < w1.heap.size := Nat.lt_of_lt_of_le (by first | (simp; done) | (simp; omega) | exact S1) z1.size
  have S0 : w.heap.size < w1.heap.size := by omega
  by_cases t1 : a.g_Tiles = b.g_Tiles
  case neg =>
    rw [decide_eq_false t1]
    go_wp2_with fail
    go_ret
    exact ⟨ret_b (by rw [eq_comm, decide_eq_false_iff_not]; rintro rfl; exact t1 rfl), y2⟩
  rw [decide_eq_true t1]
  replace t1 := Lib.hid t1
  go_wp2_with fail
  go_ret
  refine ⟨ret_b ?_, y2⟩
  have hab : a = b := by cases a; cases b; have v0 := t0.out; have v1 := t1.out; simp_all
  rw [hab]; simp


end Go.Proofs.YtpbniieiinhliaaGreat
