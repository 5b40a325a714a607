/- The text that a mark leaves in a name. -/
import Derived.Test.YtpbniieiinhliaaGreatRnD
import Derived.Test.YtpbniieiinhliaaGreatChecked
set_option linter.unusedVariables false
set_option linter.unusedSimpArgs false
namespace Go.Proofs.YtpbniieiinhliaaGreat
open Go.RowKit

def digs (n : Nat) : List UInt8 := if h : n = 0 then [] else digs (n / 10) ++ [UInt8.ofNat (48 + n % 10)]
termination_by n
decreasing_by omega
def mkText (k : Int) : ByteArray := if k ≤ 0 then ⟨#[109, 48]⟩ else ⟨(109 :: digs k.toNat).toArray⟩

theorem digs_zero : digs 0 = [] := by unfold digs; simp
theorem digs_pos {n : Nat} (h : n ≠ 0) : digs n = digs (n / 10) ++ [UInt8.ofNat (48 + n % 10)] := by
  conv => lhs; unfold digs
  rw [dif_neg h]
theorem cons_data (c : UInt8) (l : ByteArray) : ((⟨#[c]⟩ ++ l : ByteArray)).data.toList = c :: l.data.toList := by
  simp [ByteArray.data_append]
theorem digs_len : ∀ (m n : Nat), n < 10 ^ m → (digs n).length ≤ m
  | 0, n, h => by
    have : n = 0 := by simpa using h
    subst this; simp [digs]
  | m + 1, n, h => by
    unfold digs
    split
    · simp
    · have := digs_len m (n / 10) (by rw [Nat.pow_succ] at h; omega)
      simp; omega

set_option maxRecDepth 100000 in
set_option maxHeartbeats 1000000 in
theorem markText_any (w : World) (k : Int) (h0 : 0 ≤ k) (h1 : k ≤ 4611686018427387904) :
    Calls Tryz.prog 81 #[.int .i64 k] w fun e w' => e = .returned (.string (mkText k)) ∧ Below w.heap.size w w' := by
  by_cases hk : k ≤ 0
  · go_enter Tryz.func81, Tryz.ntmps81
    go_wp2_with fail
    go_ret
    exact ⟨by simp [mkText, hk], Below.refl _ _⟩
  · go_enter Tryz.func81, Tryz.ntmps81
    go_wp2_with fail
    go_loopw [0, 3] (fun a s wr => ∃ (j : Int) (l : ByteArray), a = .int .i64 j ∧ s = .string l ∧ 0 ≤ j ∧ j ≤ 4611686018427387904 ∧ Hid (digs j.toNat ++ l.data.toList = digs k.toNat) ∧ Below w.heap.size w wr) (fun a _ _ => (intOf a).toNat)
    case atStart => exact ⟨k, ⟨#[]⟩, rfl, rfl, h0, h1, Lib.hid (by simp), Below.refl _ _⟩
    case round =>
      obtain ⟨j, l, rfl, rfl, hj0, hj1, hd, hb⟩ := hrel
      have hroom : l.size ≤ 19 := by
        have h1 := congrArg List.length hd.out
        have h2 := digs_len 19 k.toNat (by omega)
        rw [List.length_append] at h1
        have : l.data.toList.length = l.size := by rw [Array.length_toList]; rfl
        omega
      by_cases hj : 0 < j
      · have hcv : ∀ v : Int, (convert 164 9 (.slice (some ⟨wr.heap.size, 0, none⟩) 1 1)).run Tryz.prog (wr.alloc (.cells #[.int .u8 v] 5)) = .ok (.string ⟨#[UInt8.ofNat v.toNat]⟩) (wr.alloc (.cells #[.int .u8 v] 5)) := by
          intro v
          rw [run_convert_bytes_string _ _ _ 5 _ _ _ Tryz.underlying164 Tryz.underlying5 Tryz.underlying9, run_bytesToString _ _ _ _ [v] (by simp [loadCells, loadCellsFrom, go_sem])]
          rfl
        have hr := hroom
        go_wp2_with fail
        go_roundw
        case rel =>
          refine ⟨_, _, rfl, rfl, by omega, by omega, Lib.hid ?_, hb.alloc hb.size _⟩
          rw [← hd.out, cons_data, digs_pos (show j.toNat ≠ 0 by omega), show (j / 10).toNat = j.toNat / 10 by omega, show (48 + j % 10).toNat = 48 + j.toNat % 10 by omega]
          simp
        case measure => simp [intOf]; omega
      · go_wp2_with fail
        go_ret
        refine ⟨?_, hb⟩
        have h1 := hd.out
        rw [show j.toNat = 0 by omega, digs_zero, List.nil_append] at h1
        have h2 : (⟨#[109]⟩ ++ l : ByteArray) = mkText k := by
          rw [mkText, if_neg (by omega)]
          refine ByteArray.ext (Array.ext' ?_)
          rw [cons_data, h1]
        rw [h2]; rfl

end Go.Proofs.YtpbniieiinhliaaGreat

namespace Go.Proofs.YtpbniieiinhliaaGreat
open Go.RowKit


def cnt_Bool (_ : Bool) : Nat := 1
def mk_Bool (_ : Bool) (k : Int) : Bool := ((k) % 3 == 0)

def cnt_BoolS (xs : List Bool) : Nat := (xs.map cnt_Bool).sum
def mk_BoolS (xs : List Bool) (k : Int) : List Bool := mkL mk_Bool cnt_Bool xs k

def cnt_Int64 (_ : Int) : Nat := 1
def mk_Int64 (_ : Int) (k : Int) : Int := k

def cnt_Fire (_d : D_Fire) : Nat := 1 + 1
def mk_Fire (_d : D_Fire) (k : Int) : D_Fire := { g_From := k, g_To := k + 1 }

def cnt_FireS (xs : List D_Fire) : Nat := (xs.map cnt_Fire).sum
def mk_FireS (xs : List D_Fire) (k : Int) : List D_Fire := mkL mk_Fire cnt_Fire xs k

def cnt_Glue (_d : D_Glue) : Nat := 1 + 1
def mk_Glue (_d : D_Glue) (k : Int) : D_Glue := { g_Name := mkText (k), g_Strength := k + 1 }

def cnt_GlueS (xs : List D_Glue) : Nat := (xs.map cnt_Glue).sum
def mk_GlueS (xs : List D_Glue) (k : Int) : List D_Glue := mkL mk_Glue cnt_Glue xs k

def cnt_Int64S (xs : List Int) : Nat := (xs.map cnt_Int64).sum
def mk_Int64S (xs : List Int) (k : Int) : List Int := mkL mk_Int64 cnt_Int64 xs k

def cnt_SignalCell (d : D_SignalCell) : Nat := 1 + 1 + 1 + cnt_BoolS d.g_On + cnt_BoolS d.g_Bound + cnt_BoolS d.g_Fired
def mk_SignalCell (d : D_SignalCell) (k : Int) : D_SignalCell := { g_At := { g_X := k, g_Y := k + 1 }, g_Tile := k + 1 + 1, g_On := mk_BoolS (d.g_On) (k + 1 + 1 + 1), g_Bound := mk_BoolS (d.g_Bound) (k + 1 + 1 + 1 + (cnt_BoolS (d.g_On) : Nat)), g_Fired := mk_BoolS (d.g_Fired) (k + 1 + 1 + 1 + (cnt_BoolS (d.g_On) : Nat) + (cnt_BoolS (d.g_Bound) : Nat)) }

def cnt_SignalCellS (xs : List D_SignalCell) : Nat := (xs.map cnt_SignalCell).sum
def mk_SignalCellS (xs : List D_SignalCell) (k : Int) : List D_SignalCell := mkL mk_SignalCell cnt_SignalCell xs k

def cnt_SignalTile (d : D_SignalTile) : Nat := 1 + cnt_Int64S d.g_Sides + cnt_BoolS d.g_On + cnt_FireS d.g_Fires
def mk_SignalTile (d : D_SignalTile) (k : Int) : D_SignalTile := { g_Name := mkText (k), g_Sides := mk_Int64S (d.g_Sides) (k + 1), g_On := mk_BoolS (d.g_On) (k + 1 + (cnt_Int64S (d.g_Sides) : Nat)), g_Fires := mk_FireS (d.g_Fires) (k + 1 + (cnt_Int64S (d.g_Sides) : Nat) + (cnt_BoolS (d.g_On) : Nat)) }

def cnt_SignalTileS (xs : List D_SignalTile) : Nat := (xs.map cnt_SignalTile).sum
def mk_SignalTileS (xs : List D_SignalTile) (k : Int) : List D_SignalTile := mkL mk_SignalTile cnt_SignalTile xs k

def cnt_SignalSet (d : D_SignalSet) : Nat := cnt_GlueS d.g_Glues + cnt_SignalTileS d.g_Tiles
def mk_SignalSet (d : D_SignalSet) (k : Int) : D_SignalSet := { g_Glues := mk_GlueS (d.g_Glues) (k), g_Tiles := mk_SignalTileS (d.g_Tiles) (k + (cnt_GlueS (d.g_Glues) : Nat)) }

theorem sum_take' {α : Type} (f : α → Nat) {xs : List α} {k : Nat} (hk : k < xs.length) : ((xs.take (k + 1)).map f).sum = ((xs.take k).map f).sum + f xs[k] := by
  rw [List.take_succ_eq_append_getElem hk, List.map_append, List.sum_append]; simp
theorem sum_take_le' {α : Type} (f : α → Nat) (xs : List α) (k : Nat) : ((xs.take k).map f).sum ≤ (xs.map f).sum := by
  conv => rhs; rw [← List.take_append_drop k xs]
  rw [List.map_append, List.sum_append]; omega
theorem keepB {f : List Nat} {w w' : World} (hu : ∀ x ∈ f, Unf w x) (hb : Below w.heap.size w w') : SameOn f w w' := fun x hx => hb.block x (hu x hx).lt
theorem keepS {f : List Nat} {b i : Nat} (w : World) (hb : b ∉ f) (v : Value) : SameOn f w (w.setCell ⟨b, i, none⟩ v) := fun x hx => Below.heap_setCell _ _ _ _ (fun e => hb (by have e' : x = b := e; rw [← e']; exact hx))
theorem keepO {f g : List Nat} {w w' : World} (ho : Only g w w') (hu : ∀ x ∈ f, Unf w x) (hd : ∀ x ∈ f, x ∉ g) : SameOn f w w' := fun x hx => ho.block x (hu x hx).lt (hd x hx)

set_option maxRecDepth 100000 in
set_option maxHeartbeats 1000000 in
theorem markBoolS_any (w : World) (A : Option Addr) (n c : Nat) (f : List Nat) (xs : List Bool) (k : Int) (hx : S_BoolS w f (.slice A n c) xs) (nd : f.Nodup) (un : ∀ b ∈ f, Unf w b) (h0 : 0 ≤ k) (h1 : k + (cnt_BoolS xs : Nat) ≤ 4611686018427387904) :
    Calls Tryz.prog 44 #[.slice A n c, .int .i64 k] w fun e w' => e = .returned (.int .i64 (k + (cnt_BoolS xs : Nat))) ∧ S_BoolS w' f (.slice A n c) (mk_BoolS xs k) ∧ Only f w w' := by
  obtain ⟨e1, b1, _⟩ := SlOf.n_eq hx
  replace e1 := Lib.hid e1
  have hcn : cnt_BoolS xs = (xs.map cnt_Bool).sum := rfl
  rw [hcn] at h1 ⊢
  go_enter Tryz.func44, Tryz.ntmps44
  go_wp2_with fail
  go_loopw [5, 1] (fun a l wr => ∃ (i : Nat) (m : Int), i ≤ n ∧ a = .int .i64 i ∧ l = .int .i64 m ∧ 0 ≤ m ∧ Hid (m = k + (((xs.take i).map cnt_Bool).sum : Nat)) ∧ S_BoolS wr f (.slice A n c) (mkAt mk_Bool cnt_Bool xs k i) ∧ Only f w wr) (fun a _ _ => n - (intOf a).toNat)
  case atStart => exact ⟨0, k, Nat.zero_le _, rfl, rfl, h0, Lib.hid (by simp), (by rw [mkAt_zero]; exact hx), Only.refl _ _⟩
  case round =>
    obtain ⟨i, m, hi, rfl, rfl, hm, hs, hS, hO⟩ := hrel
    by_cases hlt : i < n
    · have hil : i < xs.length := by have := e1.out; omega
      have hst := Lib.hid (sum_take' cnt_Bool hil)
      have hle := Lib.hid (sum_take_le' cnt_Bool xs (i + 1))
      have ur : ∀ x ∈ f, Unf wr x := fun x hx => hO.unf x (un x hx)
      have hgetl : i < (mkAt mk_Bool cnt_Bool xs k i).length := by rw [mkAt_len]; exact hil
      obtain ⟨b, o, cs, g, rfl, hbf, hg, hbg, ndg, hrep, hl, hcell, hback⟩ := SlOf.put R_Bool.framed hS nd (fun x hx => (ur x hx).lt) i hgetl
      rw [mkAt_get _ _ _ _ _ hil] at hrep
      simp only [Nat.mul_one] at hcell hback
      obtain ⟨rfl, rfl⟩ := hrep
      have hE := ElemSt.start (fp := f) (f := []) (sz := 1) hcell hl (ur b hbf) hbf
      have hcx := Lib.hid (show cnt_Bool xs[i] = 1 from rfl)
      have hmb : m + 1 ≤ 4611686018427387904 := by have := hs.out; have := hst.out; have := hle.out; have := hcx.out; omega
      have q0 := hE.in_ 0 _ rfl
      simp only [Nat.add_zero] at q0
      have fz := hE.unf.frozen
      go_wp2_with fail
      clear q0 fz
      replace hE := hE.set_ 0 (.bool ((m) % 3 == 0)) (by omega)
      have hfin := hback _ (mk_Bool xs[i] m) _ hE ⟨rfl, rfl⟩
      have hms := mkAt_step mk_Bool cnt_Bool xs k i hil
      rw [← hs.out] at hms
      rw [hms] at hfin
      go_roundw
      case rel => exact ⟨i + 1, _, by omega, by go_num, rfl, by omega, Lib.hid (by have := hs.out; have := hst.out; have := hcx.out; omega), hfin, hO.trans hE.only⟩
      case measure => simp [intOf]; omega
    · go_wp2_with fail
      go_ret
      rw [mkAt_all _ _ _ _ (by have := e1.out; omega)] at hS
      refine ⟨ret_i ?_, hS, hO⟩
      have h2 := hs.out
      rw [List.take_of_length_le (by have := e1.out; omega)] at h2
      exact h2

set_option maxRecDepth 100000 in
set_option maxHeartbeats 1000000 in
theorem markFireS_any (w : World) (A : Option Addr) (n c : Nat) (f : List Nat) (xs : List D_Fire) (k : Int) (hx : S_FireS w f (.slice A n c) xs) (nd : f.Nodup) (un : ∀ b ∈ f, Unf w b) (h0 : 0 ≤ k) (h1 : k + (cnt_FireS xs : Nat) ≤ 4611686018427387904) :
    Calls Tryz.prog 82 #[.slice A n c, .int .i64 k] w fun e w' => e = .returned (.int .i64 (k + (cnt_FireS xs : Nat))) ∧ S_FireS w' f (.slice A n c) (mk_FireS xs k) ∧ Only f w w' := by
  obtain ⟨e1, b1, _⟩ := SlOf.n_eq hx
  replace e1 := Lib.hid e1
  have hcn : cnt_FireS xs = (xs.map cnt_Fire).sum := rfl
  rw [hcn] at h1 ⊢
  go_enter Tryz.func82, Tryz.ntmps82
  go_wp2_with fail
  go_loopw [5, 1] (fun a l wr => ∃ (i : Nat) (m : Int), i ≤ n ∧ a = .int .i64 i ∧ l = .int .i64 m ∧ 0 ≤ m ∧ Hid (m = k + (((xs.take i).map cnt_Fire).sum : Nat)) ∧ S_FireS wr f (.slice A n c) (mkAt mk_Fire cnt_Fire xs k i) ∧ Only f w wr) (fun a _ _ => n - (intOf a).toNat)
  case atStart => exact ⟨0, k, Nat.zero_le _, rfl, rfl, h0, Lib.hid (by simp), (by rw [mkAt_zero]; exact hx), Only.refl _ _⟩
  case round =>
    obtain ⟨i, m, hi, rfl, rfl, hm, hs, hS, hO⟩ := hrel
    by_cases hlt : i < n
    · have hil : i < xs.length := by have := e1.out; omega
      have hst := Lib.hid (sum_take' cnt_Fire hil)
      have hle := Lib.hid (sum_take_le' cnt_Fire xs (i + 1))
      have ur : ∀ x ∈ f, Unf wr x := fun x hx => hO.unf x (un x hx)
      have hgetl : i < (mkAt mk_Fire cnt_Fire xs k i).length := by rw [mkAt_len]; exact hil
      obtain ⟨b, o, cs, g, rfl, hbf, hg, hbg, ndg, hrep, hl, hcell, hback⟩ := SlOf.put R_Fire.framed hS nd (fun x hx => (ur x hx).lt) i hgetl
      rw [mkAt_get _ _ _ _ _ hil] at hrep
      obtain ⟨rfl, rfl⟩ := hrep
      have hE := ElemSt.start (fp := f) (f := []) (sz := 2) hcell hl (ur b hbf) hbf
      have hcx := Lib.hid (show cnt_Fire xs[i] = 1 + 1 from rfl)
      have hmb : m + 1 + 1 ≤ 4611686018427387904 := by have := hs.out; have := hst.out; have := hle.out; have := hcx.out; omega
      have q0 := hE.in_ 0 _ rfl
      have q1 := hE.in_ 1 _ rfl
      simp only [Nat.add_zero] at q0
      have fz := hE.unf.frozen
      go_wp2_with fail
      clear q0 q1 fz
      replace hE := hE.set_ 0 (.int .i64 (m)) (by omega)
      replace hE := hE.set_ 1 (.int .i64 (m + 1)) (by omega)
      have hfin := hback _ (mk_Fire xs[i] m) _ hE ⟨rfl, rfl⟩
      have hms := mkAt_step mk_Fire cnt_Fire xs k i hil
      rw [← hs.out] at hms
      rw [hms] at hfin
      go_roundw
      case rel => exact ⟨i + 1, _, by omega, by go_num, rfl, by omega, Lib.hid (by have := hs.out; have := hst.out; have := hcx.out; omega), hfin, hO.trans hE.only⟩
      case measure => simp [intOf]; omega
    · go_wp2_with fail
      go_ret
      rw [mkAt_all _ _ _ _ (by have := e1.out; omega)] at hS
      refine ⟨ret_i ?_, hS, hO⟩
      have h2 := hs.out
      rw [List.take_of_length_le (by have := e1.out; omega)] at h2
      exact h2

set_option maxRecDepth 100000 in
set_option maxHeartbeats 1000000 in
theorem markGlueS_any (w : World) (A : Option Addr) (n c : Nat) (f : List Nat) (xs : List D_Glue) (k : Int) (hx : S_GlueS w f (.slice A n c) xs) (nd : f.Nodup) (un : ∀ b ∈ f, Unf w b) (h0 : 0 ≤ k) (h1 : k + (cnt_GlueS xs : Nat) ≤ 4611686018427387904) :
    Calls Tryz.prog 42 #[.slice A n c, .int .i64 k] w fun e w' => e = .returned (.int .i64 (k + (cnt_GlueS xs : Nat))) ∧ S_GlueS w' f (.slice A n c) (mk_GlueS xs k) ∧ Only f w w' := by
  obtain ⟨e1, b1, _⟩ := SlOf.n_eq hx
  replace e1 := Lib.hid e1
  have hcn : cnt_GlueS xs = (xs.map cnt_Glue).sum := rfl
  rw [hcn] at h1 ⊢
  go_enter Tryz.func42, Tryz.ntmps42
  go_wp2_with fail
  go_loopw [5, 1] (fun a l wr => ∃ (i : Nat) (m : Int), i ≤ n ∧ a = .int .i64 i ∧ l = .int .i64 m ∧ 0 ≤ m ∧ Hid (m = k + (((xs.take i).map cnt_Glue).sum : Nat)) ∧ S_GlueS wr f (.slice A n c) (mkAt mk_Glue cnt_Glue xs k i) ∧ Only f w wr) (fun a _ _ => n - (intOf a).toNat)
  case atStart => exact ⟨0, k, Nat.zero_le _, rfl, rfl, h0, Lib.hid (by simp), (by rw [mkAt_zero]; exact hx), Only.refl _ _⟩
  case round =>
    obtain ⟨i, m, hi, rfl, rfl, hm, hs, hS, hO⟩ := hrel
    by_cases hlt : i < n
    · have hil : i < xs.length := by have := e1.out; omega
      have hst := Lib.hid (sum_take' cnt_Glue hil)
      have hle := Lib.hid (sum_take_le' cnt_Glue xs (i + 1))
      have ur : ∀ x ∈ f, Unf wr x := fun x hx => hO.unf x (un x hx)
      have hgetl : i < (mkAt mk_Glue cnt_Glue xs k i).length := by rw [mkAt_len]; exact hil
      obtain ⟨b, o, cs, g, rfl, hbf, hg, hbg, ndg, hrep, hl, hcell, hback⟩ := SlOf.put R_Glue.framed hS nd (fun x hx => (ur x hx).lt) i hgetl
      rw [mkAt_get _ _ _ _ _ hil] at hrep
      obtain ⟨rfl, rfl⟩ := hrep
      have hE := ElemSt.start (fp := f) (f := []) (sz := 2) hcell hl (ur b hbf) hbf
      have hcx := Lib.hid (show cnt_Glue xs[i] = 1 + 1 from rfl)
      have hmb : m + 1 + 1 ≤ 4611686018427387904 := by have := hs.out; have := hst.out; have := hle.out; have := hcx.out; omega
      have q0 := hE.in_ 0 _ rfl
      have q1 := hE.in_ 1 _ rfl
      simp only [Nat.add_zero] at q0
      have fz := hE.unf.frozen
      go_wp2_with fail
      clear q0 q1 fz
      refine (markText_any _ (m) (by omega) (by have := hs.out; have := hst.out; have := hle.out; have := hcx.out; omega)).mono ?_
      rintro e w1 ⟨rfl, z1⟩
      replace hE := hE.below z1
      have q0 := hE.in_ 0 _ rfl
      have q1 := hE.in_ 1 _ rfl
      simp only [Nat.add_zero] at q0
      have fz := hE.unf.frozen
      go_wp2_with fail
      clear q0 q1 fz
      replace hE := hE.set_ 0 (.string (mkText (m))) (by omega)
      replace hE := hE.set_ 1 (.int .i64 (m + 1)) (by omega)
      have hfin := hback _ (mk_Glue xs[i] m) _ hE ⟨rfl, rfl⟩
      have hms := mkAt_step mk_Glue cnt_Glue xs k i hil
      rw [← hs.out] at hms
      rw [hms] at hfin
      go_roundw
      case rel => exact ⟨i + 1, _, by omega, by go_num, rfl, by omega, Lib.hid (by have := hs.out; have := hst.out; have := hcx.out; omega), hfin, hO.trans hE.only⟩
      case measure => simp [intOf]; omega
    · go_wp2_with fail
      go_ret
      rw [mkAt_all _ _ _ _ (by have := e1.out; omega)] at hS
      refine ⟨ret_i ?_, hS, hO⟩
      have h2 := hs.out
      rw [List.take_of_length_le (by have := e1.out; omega)] at h2
      exact h2

set_option maxRecDepth 100000 in
set_option maxHeartbeats 1000000 in
theorem markInt64S_any (w : World) (A : Option Addr) (n c : Nat) (f : List Nat) (xs : List Int) (k : Int) (hx : S_Int64S w f (.slice A n c) xs) (nd : f.Nodup) (un : ∀ b ∈ f, Unf w b) (h0 : 0 ≤ k) (h1 : k + (cnt_Int64S xs : Nat) ≤ 4611686018427387904) :
    Calls Tryz.prog 27 #[.slice A n c, .int .i64 k] w fun e w' => e = .returned (.int .i64 (k + (cnt_Int64S xs : Nat))) ∧ S_Int64S w' f (.slice A n c) (mk_Int64S xs k) ∧ Only f w w' := by
  obtain ⟨e1, b1, _⟩ := SlOf.n_eq hx
  replace e1 := Lib.hid e1
  have hcn : cnt_Int64S xs = (xs.map cnt_Int64).sum := rfl
  rw [hcn] at h1 ⊢
  go_enter Tryz.func27, Tryz.ntmps27
  go_wp2_with fail
  go_loopw [5, 1] (fun a l wr => ∃ (i : Nat) (m : Int), i ≤ n ∧ a = .int .i64 i ∧ l = .int .i64 m ∧ 0 ≤ m ∧ Hid (m = k + (((xs.take i).map cnt_Int64).sum : Nat)) ∧ S_Int64S wr f (.slice A n c) (mkAt mk_Int64 cnt_Int64 xs k i) ∧ Only f w wr) (fun a _ _ => n - (intOf a).toNat)
  case atStart => exact ⟨0, k, Nat.zero_le _, rfl, rfl, h0, Lib.hid (by simp), (by rw [mkAt_zero]; exact hx), Only.refl _ _⟩
  case round =>
    obtain ⟨i, m, hi, rfl, rfl, hm, hs, hS, hO⟩ := hrel
    by_cases hlt : i < n
    · have hil : i < xs.length := by have := e1.out; omega
      have hst := Lib.hid (sum_take' cnt_Int64 hil)
      have hle := Lib.hid (sum_take_le' cnt_Int64 xs (i + 1))
      have ur : ∀ x ∈ f, Unf wr x := fun x hx => hO.unf x (un x hx)
      have hgetl : i < (mkAt mk_Int64 cnt_Int64 xs k i).length := by rw [mkAt_len]; exact hil
      obtain ⟨b, o, cs, g, rfl, hbf, hg, hbg, ndg, hrep, hl, hcell, hback⟩ := SlOf.put R_Int64.framed hS nd (fun x hx => (ur x hx).lt) i hgetl
      rw [mkAt_get _ _ _ _ _ hil] at hrep
      simp only [Nat.mul_one] at hcell hback
      obtain ⟨rfl, rfl⟩ := hrep
      have hE := ElemSt.start (fp := f) (f := []) (sz := 1) hcell hl (ur b hbf) hbf
      have hcx := Lib.hid (show cnt_Int64 xs[i] = 1 from rfl)
      have hmb : m + 1 ≤ 4611686018427387904 := by have := hs.out; have := hst.out; have := hle.out; have := hcx.out; omega
      have q0 := hE.in_ 0 _ rfl
      simp only [Nat.add_zero] at q0
      have fz := hE.unf.frozen
      go_wp2_with fail
      clear q0 fz
      replace hE := hE.set_ 0 (.int .i64 (m)) (by omega)
      have hfin := hback _ (mk_Int64 xs[i] m) _ hE ⟨rfl, rfl⟩
      have hms := mkAt_step mk_Int64 cnt_Int64 xs k i hil
      rw [← hs.out] at hms
      rw [hms] at hfin
      go_roundw
      case rel => exact ⟨i + 1, _, by omega, by go_num, rfl, by omega, Lib.hid (by have := hs.out; have := hst.out; have := hcx.out; omega), hfin, hO.trans hE.only⟩
      case measure => simp [intOf]; omega
    · go_wp2_with fail
      go_ret
      rw [mkAt_all _ _ _ _ (by have := e1.out; omega)] at hS
      refine ⟨ret_i ?_, hS, hO⟩
      have h2 := hs.out
      rw [List.take_of_length_le (by have := e1.out; omega)] at h2
      exact h2

set_option maxRecDepth 100000 in
set_option maxHeartbeats 1000000 in
theorem markSignalCellS_any (w : World) (A : Option Addr) (n c : Nat) (f : List Nat) (xs : List D_SignalCell) (k : Int) (hx : S_SignalCellS w f (.slice A n c) xs) (nd : f.Nodup) (un : ∀ b ∈ f, Unf w b) (h0 : 0 ≤ k) (h1 : k + (cnt_SignalCellS xs : Nat) ≤ 4611686018427387904) :
    Calls Tryz.prog 16 #[.slice A n c, .int .i64 k] w fun e w' => e = .returned (.int .i64 (k + (cnt_SignalCellS xs : Nat))) ∧ S_SignalCellS w' f (.slice A n c) (mk_SignalCellS xs k) ∧ Only f w w' := by
  obtain ⟨e1, b1, _⟩ := SlOf.n_eq hx
  replace e1 := Lib.hid e1
  have hcn : cnt_SignalCellS xs = (xs.map cnt_SignalCell).sum := rfl
  rw [hcn] at h1 ⊢
  go_enter Tryz.func16, Tryz.ntmps16
  go_wp2_with fail
  go_loopw [5, 1] (fun a l wr => ∃ (i : Nat) (m : Int), i ≤ n ∧ a = .int .i64 i ∧ l = .int .i64 m ∧ 0 ≤ m ∧ Hid (m = k + (((xs.take i).map cnt_SignalCell).sum : Nat)) ∧ S_SignalCellS wr f (.slice A n c) (mkAt mk_SignalCell cnt_SignalCell xs k i) ∧ Only f w wr) (fun a _ _ => n - (intOf a).toNat)
  case atStart => exact ⟨0, k, Nat.zero_le _, rfl, rfl, h0, Lib.hid (by simp), (by rw [mkAt_zero]; exact hx), Only.refl _ _⟩
  case round =>
    obtain ⟨i, m, hi, rfl, rfl, hm, hs, hS, hO⟩ := hrel
    by_cases hlt : i < n
    · have hil : i < xs.length := by have := e1.out; omega
      have hst := Lib.hid (sum_take' cnt_SignalCell hil)
      have hle := Lib.hid (sum_take_le' cnt_SignalCell xs (i + 1))
      have ur : ∀ x ∈ f, Unf wr x := fun x hx => hO.unf x (un x hx)
      have hgetl : i < (mkAt mk_SignalCell cnt_SignalCell xs k i).length := by rw [mkAt_len]; exact hil
      obtain ⟨b, o, cs, g, rfl, hbf, hg, hbg, ndg, hrep, hl, hcell, hback⟩ := SlOf.put R_SignalCell.framed hS nd (fun x hx => (ur x hx).lt) i hgetl
      rw [mkAt_get _ _ _ _ _ hil] at hrep
      obtain ⟨v3, v4, v5, g3, g4, g5, rfl, rfl, s3, s4, s5⟩ := hrep
      obtain ⟨A3, c3, rfl, _, _⟩ := SlOf.len s3
      obtain ⟨A4, c4, rfl, _, _⟩ := SlOf.len s4
      obtain ⟨A5, c5, rfl, _, _⟩ := SlOf.len s5
      obtain ⟨ng3, nr3, dj3⟩ := List.nodup_append.1 ndg
      have hgs3 : ∀ x ∈ g3, x ∈ g3 ++ (g4 ++ (g5)) := fun x hx => by simp [hx]
      have hb3 : b ∉ g3 := fun h => hbg (hgs3 b h)
      obtain ⟨ng4, nr4, dj4⟩ := List.nodup_append.1 nr3
      have hgs4 : ∀ x ∈ g4, x ∈ g3 ++ (g4 ++ (g5)) := fun x hx => by simp [hx]
      have hb4 : b ∉ g4 := fun h => hbg (hgs4 b h)
      have ng5 := nr4
      have hgs5 : ∀ x ∈ g5, x ∈ g3 ++ (g4 ++ (g5)) := fun x hx => by simp [hx]
      have hb5 : b ∉ g5 := fun h => hbg (hgs5 b h)
      have d3_4 : ∀ x ∈ g3, x ∉ g4 := fun x hx hy => dj3 x hx x (by simp [hy]) rfl
      have d4_3 : ∀ x ∈ g4, x ∉ g3 := fun x hx hy => d3_4 x hy hx
      have d3_5 : ∀ x ∈ g3, x ∉ g5 := fun x hx hy => dj3 x hx x (by simp [hy]) rfl
      have d5_3 : ∀ x ∈ g5, x ∉ g3 := fun x hx hy => d3_5 x hy hx
      have d4_5 : ∀ x ∈ g4, x ∉ g5 := fun x hx hy => dj4 x hx x (by simp [hy]) rfl
      have d5_4 : ∀ x ∈ g5, x ∉ g4 := fun x hx hy => d4_5 x hy hx
      have hE := ElemSt.start (fp := f) (f := g3 ++ (g4 ++ (g5))) (sz := 6) hcell hl (ur b hbf) hbf
      have hcx := Lib.hid (show cnt_SignalCell xs[i] = 1 + 1 + 1 + cnt_BoolS xs[i].g_On + cnt_BoolS xs[i].g_Bound + cnt_BoolS xs[i].g_Fired from rfl)
      have hmb : m + 1 + 1 + 1 + (cnt_BoolS xs[i].g_On : Nat) + (cnt_BoolS xs[i].g_Bound : Nat) + (cnt_BoolS xs[i].g_Fired : Nat) ≤ 4611686018427387904 := by have := hs.out; have := hst.out; have := hle.out; have := hcx.out; omega
      have q0 := hE.in_ 0 _ rfl
      have q1 := hE.in_ 1 _ rfl
      have q2 := hE.in_ 2 _ rfl
      have q3 := hE.in_ 3 _ rfl
      have q4 := hE.in_ 4 _ rfl
      have q5 := hE.in_ 5 _ rfl
      simp only [Nat.add_zero] at q0
      have fz := hE.unf.frozen
      go_wp2_with fail
      clear q0 q1 q2 q3 q4 q5 fz
      replace hE := hE.set_ 0 (.int .i64 (m)) (by omega)
      replace s3 := s3.same (keepS (i := o + i * 6 + 0) _ hb3 (.int .i64 (m)))
      replace s4 := s4.same (keepS (i := o + i * 6 + 0) _ hb4 (.int .i64 (m)))
      replace s5 := s5.same (keepS (i := o + i * 6 + 0) _ hb5 (.int .i64 (m)))
      replace hE := hE.set_ 1 (.int .i64 (m + 1)) (by omega)
      replace s3 := s3.same (keepS (i := o + i * 6 + 1) _ hb3 (.int .i64 (m + 1)))
      replace s4 := s4.same (keepS (i := o + i * 6 + 1) _ hb4 (.int .i64 (m + 1)))
      replace s5 := s5.same (keepS (i := o + i * 6 + 1) _ hb5 (.int .i64 (m + 1)))
      replace hE := hE.set_ 2 (.int .i64 (m + 1 + 1)) (by omega)
      replace s3 := s3.same (keepS (i := o + i * 6 + 2) _ hb3 (.int .i64 (m + 1 + 1)))
      replace s4 := s4.same (keepS (i := o + i * 6 + 2) _ hb4 (.int .i64 (m + 1 + 1)))
      replace s5 := s5.same (keepS (i := o + i * 6 + 2) _ hb5 (.int .i64 (m + 1 + 1)))
      refine (markBoolS_any _ _ _ _ g3 _ (m + 1 + 1 + 1) s3 ng3 (fun x hx => hE.only.unf x (ur x (hg x (hgs3 x hx)))) (by omega) (by have := hs.out; have := hst.out; have := hle.out; have := hcx.out; omega)).mono ?_
      rintro e w1 ⟨rfl, t3, z1⟩
      replace s4 := s4.same (keepO z1 (fun x hx => hE.only.unf x (ur x (hg x (hgs4 x hx)))) d4_3)
      replace s5 := s5.same (keepO z1 (fun x hx => hE.only.unf x (ur x (hg x (hgs5 x hx)))) d5_3)
      clear s3
      have s3 := t3
      clear t3
      replace hE := hE.inner z1 hgs3 hg hbg
      have q0 := hE.in_ 0 _ rfl
      have q1 := hE.in_ 1 _ rfl
      have q2 := hE.in_ 2 _ rfl
      have q3 := hE.in_ 3 _ rfl
      have q4 := hE.in_ 4 _ rfl
      have q5 := hE.in_ 5 _ rfl
      simp only [Nat.add_zero] at q0
      have fz := hE.unf.frozen
      go_wp2_with fail
      clear q0 q1 q2 q3 q4 q5 fz
      refine (markBoolS_any _ _ _ _ g4 _ (m + 1 + 1 + 1 + (cnt_BoolS xs[i].g_On : Nat)) s4 ng4 (fun x hx => hE.only.unf x (ur x (hg x (hgs4 x hx)))) (by omega) (by have := hs.out; have := hst.out; have := hle.out; have := hcx.out; omega)).mono ?_
      rintro e w2 ⟨rfl, t4, z2⟩
      replace s3 := s3.same (keepO z2 (fun x hx => hE.only.unf x (ur x (hg x (hgs3 x hx)))) d3_4)
      replace s5 := s5.same (keepO z2 (fun x hx => hE.only.unf x (ur x (hg x (hgs5 x hx)))) d5_4)
      clear s4
      have s4 := t4
      clear t4
      replace hE := hE.inner z2 hgs4 hg hbg
      have q0 := hE.in_ 0 _ rfl
      have q1 := hE.in_ 1 _ rfl
      have q2 := hE.in_ 2 _ rfl
      have q3 := hE.in_ 3 _ rfl
      have q4 := hE.in_ 4 _ rfl
      have q5 := hE.in_ 5 _ rfl
      simp only [Nat.add_zero] at q0
      have fz := hE.unf.frozen
      go_wp2_with fail
      clear q0 q1 q2 q3 q4 q5 fz
      refine (markBoolS_any _ _ _ _ g5 _ (m + 1 + 1 + 1 + (cnt_BoolS xs[i].g_On : Nat) + (cnt_BoolS xs[i].g_Bound : Nat)) s5 ng5 (fun x hx => hE.only.unf x (ur x (hg x (hgs5 x hx)))) (by omega) (by have := hs.out; have := hst.out; have := hle.out; have := hcx.out; omega)).mono ?_
      rintro e w3 ⟨rfl, t5, z3⟩
      replace s3 := s3.same (keepO z3 (fun x hx => hE.only.unf x (ur x (hg x (hgs3 x hx)))) d3_5)
      replace s4 := s4.same (keepO z3 (fun x hx => hE.only.unf x (ur x (hg x (hgs4 x hx)))) d4_5)
      clear s5
      have s5 := t5
      clear t5
      replace hE := hE.inner z3 hgs5 hg hbg
      have q0 := hE.in_ 0 _ rfl
      have q1 := hE.in_ 1 _ rfl
      have q2 := hE.in_ 2 _ rfl
      have q3 := hE.in_ 3 _ rfl
      have q4 := hE.in_ 4 _ rfl
      have q5 := hE.in_ 5 _ rfl
      simp only [Nat.add_zero] at q0
      have fz := hE.unf.frozen
      go_wp2_with fail
      clear q0 q1 q2 q3 q4 q5 fz
      have hfin := hback _ (mk_SignalCell xs[i] m) _ hE ⟨_, _, _, _, _, _, rfl, rfl, s3, s4, s5⟩
      have hms := mkAt_step mk_SignalCell cnt_SignalCell xs k i hil
      rw [← hs.out] at hms
      rw [hms] at hfin
      go_roundw
      case rel => exact ⟨i + 1, _, by omega, by go_num, rfl, by omega, Lib.hid (by have := hs.out; have := hst.out; have := hcx.out; omega), hfin, hO.trans hE.only⟩
      case measure => simp [intOf]; omega
    · go_wp2_with fail
      go_ret
      rw [mkAt_all _ _ _ _ (by have := e1.out; omega)] at hS
      refine ⟨ret_i ?_, hS, hO⟩
      have h2 := hs.out
      rw [List.take_of_length_le (by have := e1.out; omega)] at h2
      exact h2

set_option maxRecDepth 100000 in
set_option maxHeartbeats 1000000 in
theorem markSignalTileS_any (w : World) (A : Option Addr) (n c : Nat) (f : List Nat) (xs : List D_SignalTile) (k : Int) (hx : S_SignalTileS w f (.slice A n c) xs) (nd : f.Nodup) (un : ∀ b ∈ f, Unf w b) (h0 : 0 ≤ k) (h1 : k + (cnt_SignalTileS xs : Nat) ≤ 4611686018427387904) :
    Calls Tryz.prog 43 #[.slice A n c, .int .i64 k] w fun e w' => e = .returned (.int .i64 (k + (cnt_SignalTileS xs : Nat))) ∧ S_SignalTileS w' f (.slice A n c) (mk_SignalTileS xs k) ∧ Only f w w' := by
  obtain ⟨e1, b1, _⟩ := SlOf.n_eq hx
  replace e1 := Lib.hid e1
  have hcn : cnt_SignalTileS xs = (xs.map cnt_SignalTile).sum := rfl
  rw [hcn] at h1 ⊢
  go_enter Tryz.func43, Tryz.ntmps43
  go_wp2_with fail
  go_loopw [5, 1] (fun a l wr => ∃ (i : Nat) (m : Int), i ≤ n ∧ a = .int .i64 i ∧ l = .int .i64 m ∧ 0 ≤ m ∧ Hid (m = k + (((xs.take i).map cnt_SignalTile).sum : Nat)) ∧ S_SignalTileS wr f (.slice A n c) (mkAt mk_SignalTile cnt_SignalTile xs k i) ∧ Only f w wr) (fun a _ _ => n - (intOf a).toNat)
  case atStart => exact ⟨0, k, Nat.zero_le _, rfl, rfl, h0, Lib.hid (by simp), (by rw [mkAt_zero]; exact hx), Only.refl _ _⟩
  case round =>
    obtain ⟨i, m, hi, rfl, rfl, hm, hs, hS, hO⟩ := hrel
    by_cases hlt : i < n
    · have hil : i < xs.length := by have := e1.out; omega
      have hst := Lib.hid (sum_take' cnt_SignalTile hil)
      have hle := Lib.hid (sum_take_le' cnt_SignalTile xs (i + 1))
      have ur : ∀ x ∈ f, Unf wr x := fun x hx => hO.unf x (un x hx)
      have hgetl : i < (mkAt mk_SignalTile cnt_SignalTile xs k i).length := by rw [mkAt_len]; exact hil
      obtain ⟨b, o, cs, g, rfl, hbf, hg, hbg, ndg, hrep, hl, hcell, hback⟩ := SlOf.put R_SignalTile.framed hS nd (fun x hx => (ur x hx).lt) i hgetl
      rw [mkAt_get _ _ _ _ _ hil] at hrep
      obtain ⟨v1, v2, v3, g1, g2, g3, rfl, rfl, s1, s2, s3⟩ := hrep
      obtain ⟨A1, c1, rfl, _, _⟩ := SlOf.len s1
      obtain ⟨A2, c2, rfl, _, _⟩ := SlOf.len s2
      obtain ⟨A3, c3, rfl, _, _⟩ := SlOf.len s3
      obtain ⟨ng1, nr1, dj1⟩ := List.nodup_append.1 ndg
      have hgs1 : ∀ x ∈ g1, x ∈ g1 ++ (g2 ++ (g3)) := fun x hx => by simp [hx]
      have hb1 : b ∉ g1 := fun h => hbg (hgs1 b h)
      obtain ⟨ng2, nr2, dj2⟩ := List.nodup_append.1 nr1
      have hgs2 : ∀ x ∈ g2, x ∈ g1 ++ (g2 ++ (g3)) := fun x hx => by simp [hx]
      have hb2 : b ∉ g2 := fun h => hbg (hgs2 b h)
      have ng3 := nr2
      have hgs3 : ∀ x ∈ g3, x ∈ g1 ++ (g2 ++ (g3)) := fun x hx => by simp [hx]
      have hb3 : b ∉ g3 := fun h => hbg (hgs3 b h)
      have d1_2 : ∀ x ∈ g1, x ∉ g2 := fun x hx hy => dj1 x hx x (by simp [hy]) rfl
      have d2_1 : ∀ x ∈ g2, x ∉ g1 := fun x hx hy => d1_2 x hy hx
      have d1_3 : ∀ x ∈ g1, x ∉ g3 := fun x hx hy => dj1 x hx x (by simp [hy]) rfl
      have d3_1 : ∀ x ∈ g3, x ∉ g1 := fun x hx hy => d1_3 x hy hx
      have d2_3 : ∀ x ∈ g2, x ∉ g3 := fun x hx hy => dj2 x hx x (by simp [hy]) rfl
      have d3_2 : ∀ x ∈ g3, x ∉ g2 := fun x hx hy => d2_3 x hy hx
      have hE := ElemSt.start (fp := f) (f := g1 ++ (g2 ++ (g3))) (sz := 4) hcell hl (ur b hbf) hbf
      have hcx := Lib.hid (show cnt_SignalTile xs[i] = 1 + cnt_Int64S xs[i].g_Sides + cnt_BoolS xs[i].g_On + cnt_FireS xs[i].g_Fires from rfl)
      have hmb : m + 1 + (cnt_Int64S xs[i].g_Sides : Nat) + (cnt_BoolS xs[i].g_On : Nat) + (cnt_FireS xs[i].g_Fires : Nat) ≤ 4611686018427387904 := by have := hs.out; have := hst.out; have := hle.out; have := hcx.out; omega
      have q0 := hE.in_ 0 _ rfl
      have q1 := hE.in_ 1 _ rfl
      have q2 := hE.in_ 2 _ rfl
      have q3 := hE.in_ 3 _ rfl
      simp only [Nat.add_zero] at q0
      have fz := hE.unf.frozen
      go_wp2_with fail
      clear q0 q1 q2 q3 fz
      refine (markText_any _ (m) (by omega) (by have := hs.out; have := hst.out; have := hle.out; have := hcx.out; omega)).mono ?_
      rintro e w1 ⟨rfl, z1⟩
      replace s1 := s1.same (keepB (fun x hx => hE.only.unf x (ur x (hg x (hgs1 x hx)))) z1)
      replace s2 := s2.same (keepB (fun x hx => hE.only.unf x (ur x (hg x (hgs2 x hx)))) z1)
      replace s3 := s3.same (keepB (fun x hx => hE.only.unf x (ur x (hg x (hgs3 x hx)))) z1)
      replace hE := hE.below z1
      have q0 := hE.in_ 0 _ rfl
      have q1 := hE.in_ 1 _ rfl
      have q2 := hE.in_ 2 _ rfl
      have q3 := hE.in_ 3 _ rfl
      simp only [Nat.add_zero] at q0
      have fz := hE.unf.frozen
      go_wp2_with fail
      clear q0 q1 q2 q3 fz
      replace hE := hE.set_ 0 (.string (mkText (m))) (by omega)
      replace s1 := s1.same (keepS (i := o + i * 4 + 0) _ hb1 (.string (mkText (m))))
      replace s2 := s2.same (keepS (i := o + i * 4 + 0) _ hb2 (.string (mkText (m))))
      replace s3 := s3.same (keepS (i := o + i * 4 + 0) _ hb3 (.string (mkText (m))))
      refine (markInt64S_any _ _ _ _ g1 _ (m + 1) s1 ng1 (fun x hx => hE.only.unf x (ur x (hg x (hgs1 x hx)))) (by omega) (by have := hs.out; have := hst.out; have := hle.out; have := hcx.out; omega)).mono ?_
      rintro e w2 ⟨rfl, t1, z2⟩
      replace s2 := s2.same (keepO z2 (fun x hx => hE.only.unf x (ur x (hg x (hgs2 x hx)))) d2_1)
      replace s3 := s3.same (keepO z2 (fun x hx => hE.only.unf x (ur x (hg x (hgs3 x hx)))) d3_1)
      clear s1
      have s1 := t1
      clear t1
      replace hE := hE.inner z2 hgs1 hg hbg
      have q0 := hE.in_ 0 _ rfl
      have q1 := hE.in_ 1 _ rfl
      have q2 := hE.in_ 2 _ rfl
      have q3 := hE.in_ 3 _ rfl
      simp only [Nat.add_zero] at q0
      have fz := hE.unf.frozen
      go_wp2_with fail
      clear q0 q1 q2 q3 fz
      refine (markBoolS_any _ _ _ _ g2 _ (m + 1 + (cnt_Int64S xs[i].g_Sides : Nat)) s2 ng2 (fun x hx => hE.only.unf x (ur x (hg x (hgs2 x hx)))) (by omega) (by have := hs.out; have := hst.out; have := hle.out; have := hcx.out; omega)).mono ?_
      rintro e w3 ⟨rfl, t2, z3⟩
      replace s1 := s1.same (keepO z3 (fun x hx => hE.only.unf x (ur x (hg x (hgs1 x hx)))) d1_2)
      replace s3 := s3.same (keepO z3 (fun x hx => hE.only.unf x (ur x (hg x (hgs3 x hx)))) d3_2)
      clear s2
      have s2 := t2
      clear t2
      replace hE := hE.inner z3 hgs2 hg hbg
      have q0 := hE.in_ 0 _ rfl
      have q1 := hE.in_ 1 _ rfl
      have q2 := hE.in_ 2 _ rfl
      have q3 := hE.in_ 3 _ rfl
      simp only [Nat.add_zero] at q0
      have fz := hE.unf.frozen
      go_wp2_with fail
      clear q0 q1 q2 q3 fz
      refine (markFireS_any _ _ _ _ g3 _ (m + 1 + (cnt_Int64S xs[i].g_Sides : Nat) + (cnt_BoolS xs[i].g_On : Nat)) s3 ng3 (fun x hx => hE.only.unf x (ur x (hg x (hgs3 x hx)))) (by omega) (by have := hs.out; have := hst.out; have := hle.out; have := hcx.out; omega)).mono ?_
      rintro e w4 ⟨rfl, t3, z4⟩
      replace s1 := s1.same (keepO z4 (fun x hx => hE.only.unf x (ur x (hg x (hgs1 x hx)))) d1_3)
      replace s2 := s2.same (keepO z4 (fun x hx => hE.only.unf x (ur x (hg x (hgs2 x hx)))) d2_3)
      clear s3
      have s3 := t3
      clear t3
      replace hE := hE.inner z4 hgs3 hg hbg
      have q0 := hE.in_ 0 _ rfl
      have q1 := hE.in_ 1 _ rfl
      have q2 := hE.in_ 2 _ rfl
      have q3 := hE.in_ 3 _ rfl
      simp only [Nat.add_zero] at q0
      have fz := hE.unf.frozen
      go_wp2_with fail
      clear q0 q1 q2 q3 fz
      have hfin := hback _ (mk_SignalTile xs[i] m) _ hE ⟨_, _, _, _, _, _, rfl, rfl, s1, s2, s3⟩
      have hms := mkAt_step mk_SignalTile cnt_SignalTile xs k i hil
      rw [← hs.out] at hms
      rw [hms] at hfin
      go_roundw
      case rel => exact ⟨i + 1, _, by omega, by go_num, rfl, by omega, Lib.hid (by have := hs.out; have := hst.out; have := hcx.out; omega), hfin, hO.trans hE.only⟩
      case measure => simp [intOf]; omega
    · go_wp2_with fail
      go_ret
      rw [mkAt_all _ _ _ _ (by have := e1.out; omega)] at hS
      refine ⟨ret_i ?_, hS, hO⟩
      have h2 := hs.out
      rw [List.take_of_length_le (by have := e1.out; omega)] at h2
      exact h2

set_option maxRecDepth 100000 in
set_option maxHeartbeats 1000000 in
theorem markSignalSet_any (w : World) (d : D_SignalSet) (k : Int) (A0 : Option Addr) (n0 c0 : Nat) (f0 : List Nat) (h0 : S_GlueS w f0 (.slice A0 n0 c0) d.g_Glues) (nd0 : f0.Nodup) (un0 : ∀ x ∈ f0, Unf w x) (A1 : Option Addr) (n1 c1 : Nat) (f1 : List Nat) (h1 : S_SignalTileS w f1 (.slice A1 n1 c1) d.g_Tiles) (nd1 : f1.Nodup) (un1 : ∀ x ∈ f1, Unf w x) (d0_1 : ∀ x ∈ f0, x ∉ f1) (d1_0 : ∀ x ∈ f1, x ∉ f0) (hL0 : 0 ≤ k) (hL1 : k + (cnt_SignalSet d : Nat) ≤ 4611686018427387904) :
    Calls Tryz.prog 15 #[.agg #[.slice A0 n0 c0, .slice A1 n1 c1], .int .i64 k] w fun e w' => e = .returned (.int .i64 (k + (cnt_SignalSet d : Nat))) ∧ S_GlueS w' f0 (.slice A0 n0 c0) (mk_SignalSet d k).g_Glues ∧ S_SignalTileS w' f1 (.slice A1 n1 c1) (mk_SignalSet d k).g_Tiles ∧ Only (f0 ++ (f1)) w w' := by
  have hcx := Lib.hid (show cnt_SignalSet d = cnt_GlueS d.g_Glues + cnt_SignalTileS d.g_Tiles from rfl)
  have O0 : Only (f0 ++ (f1)) w (w.alloc (.cells #[.slice A0 n0 c0, .slice A1 n1 c1] 35)) := Only.of_below ((Below.refl _ _).alloc (Nat.le_refl _) _)
  have L0 : w.heap.size < (w.alloc (.cells #[.slice A0 n0 c0, .slice A1 n1 c1] 35)).heap.size := by simp
  have H0 : (w.alloc (.cells #[.slice A0 n0 c0, .slice A1 n1 c1] 35)).heap[w.heap.size]? = some (.cells #[.slice A0 n0 c0, .slice A1 n1 c1] 35 (0, 0)) := heap_alloc_new _ _
  replace H0 := Lib.hid H0
  replace h0 := h0.same (keepB un0 ((Below.refl _ _).alloc (Nat.le_refl _) (.cells #[.slice A0 n0 c0, .slice A1 n1 c1] 35)))
  replace h1 := h1.same (keepB un1 ((Below.refl _ _).alloc (Nat.le_refl _) (.cells #[.slice A0 n0 c0, .slice A1 n1 c1] 35)))
  go_enter Tryz.func15, Tryz.ntmps15
  go_wp2_with fail
  refine (markGlueS_any _ _ _ _ f0 _ (k) h0 nd0 (fun x hx => O0.unf x (un0 x hx)) (by omega) (by have := hcx.out; omega)).mono ?_
  rintro e w1 ⟨rfl, t0, z1⟩
  replace h1 := h1.same (keepO z1 (fun x hx => O0.unf x (un1 x hx)) d1_0)
  clear h0
  have h0 := t0
  clear t0
  have O1 := O0.trans (z1.more (gp := f0 ++ (f1)) (fun x hx => by simp [hx]))
  have L1 := Nat.lt_of_lt_of_le L0 z1.size
  replace H0 := Lib.hid ((z1.block _ L0 (fun hx => Nat.lt_irrefl _ (un0 _ hx).lt)).trans H0.out)
  have C0 := fun j => cell_of_row w1 w.heap.size j _ _ _ H0.out
  go_wp2_with fail
  refine (markSignalTileS_any _ _ _ _ f1 _ (k + (cnt_GlueS d.g_Glues : Nat)) h1 nd1 (fun x hx => O1.unf x (un1 x hx)) (by omega) (by have := hcx.out; omega)).mono ?_
  rintro e w2 ⟨rfl, t1, z2⟩
  replace h0 := h0.same (keepO z2 (fun x hx => O1.unf x (un0 x hx)) d0_1)
  clear h1
  have h1 := t1
  clear t1
  have O2 := O1.trans (z2.more (gp := f0 ++ (f1)) (fun x hx => by simp [hx]))
  have L2 := Nat.lt_of_lt_of_le L1 z2.size
  replace H0 := Lib.hid ((z2.block _ L1 (fun hx => Nat.lt_irrefl _ (un1 _ hx).lt)).trans H0.out)
  go_wp2_with fail
  go_ret
  exact ⟨ret_i (by have := hcx.out; omega), h0, h1, O2⟩


end Go.Proofs.YtpbniieiinhliaaGreat

namespace Go.Proofs.YtpbniieiinhliaaGreat
open Go.RowKit


set_option maxRecDepth 100000 in
set_option maxHeartbeats 1000000 in
theorem heldBoolS_any (w : World) (A : Option Addr) (n c : Nat) (f : List Nat) (xs : List Bool) (k : Int) (hx : S_BoolS w f (.slice A n c) (mk_BoolS xs k)) (hf : Within f 0 w.heap.size) (h0 : 0 ≤ k) (h1 : k + (cnt_BoolS xs : Nat) ≤ 4611686018427387904) :
    Calls Tryz.prog 51 #[.slice A n c, .int .i64 k] w fun e w' => e = .returned (.int .i64 (k + (cnt_BoolS xs : Nat))) ∧ Below w.heap.size w w' := by
  obtain ⟨e1, b1, _⟩ := SlOf.n_eq hx
  have e2 : n = xs.length := e1.trans (mkL_len _ _ _ _)
  replace e1 := Lib.hid e1
  replace e2 := Lib.hid e2
  have hcn : cnt_BoolS xs = (xs.map cnt_Bool).sum := rfl
  rw [hcn] at h1 ⊢
  go_enter Tryz.func51, Tryz.ntmps51
  go_wp2_with fail
  go_loopw [5, 1] (fun a l wr => ∃ (i : Nat) (m : Int), i ≤ n ∧ a = .int .i64 i ∧ l = .int .i64 m ∧ 0 ≤ m ∧ Hid (m = k + (((xs.take i).map cnt_Bool).sum : Nat)) ∧ Below w.heap.size w wr) (fun a _ _ => n - (intOf a).toNat)
  case atStart => exact ⟨0, k, Nat.zero_le _, rfl, rfl, h0, Lib.hid (by simp), Below.refl _ _⟩
  case round =>
    obtain ⟨i, m, hi, rfl, rfl, hm, hs, hb⟩ := hrel
    by_cases hlt : i < n
    · have hil : i < xs.length := by have := e2.out; omega
      have hml : i < (mk_BoolS xs k).length := by have := e1.out; omega
      have hst := Lib.hid (sum_take' cnt_Bool hil)
      have hle := Lib.hid (sum_take_le' cnt_Bool xs (i + 1))
      have hget : (mk_BoolS xs k)[i] = mk_Bool xs[i] m := by rw [hs.out]; exact mkL_get _ _ _ _ _ hil _
      obtain ⟨b, o, rfl, _, q0⟩ := (hx.kb hf hb).at_ i hml
      rw [hget] at q0
      replace hget := Lib.hid hget
      have hcx := Lib.hid (show cnt_Bool xs[i] = 1 from rfl)
      simp only [mk_Bool] at q0
      have hmb : m + 1 ≤ 4611686018427387904 := by have := hs.out; have := hst.out; have := hle.out; have := hcx.out; omega
      go_wp2_with fail
      go_roundw
      case rel => exact ⟨i + 1, _, by omega, by go_num, rfl, by omega, Lib.hid (by have := hs.out; have := hst.out; have := hcx.out; omega), hb⟩
      case measure => simp [intOf]; omega
    · go_wp2_with fail
      go_ret
      refine ⟨ret_i ?_, hb⟩
      have h2 := hs.out
      rw [List.take_of_length_le (by have := e2.out; omega)] at h2
      exact h2

set_option maxRecDepth 100000 in
set_option maxHeartbeats 1000000 in
theorem heldSignalCellS_any (w : World) (A : Option Addr) (n c : Nat) (f : List Nat) (xs : List D_SignalCell) (k : Int) (hx : S_SignalCellS w f (.slice A n c) (mk_SignalCellS xs k)) (hf : Within f 0 w.heap.size) (h0 : 0 ≤ k) (h1 : k + (cnt_SignalCellS xs : Nat) ≤ 4611686018427387904) :
    Calls Tryz.prog 22 #[.slice A n c, .int .i64 k] w fun e w' => e = .returned (.int .i64 (k + (cnt_SignalCellS xs : Nat))) ∧ Below w.heap.size w w' := by
  obtain ⟨e1, b1, _⟩ := SlOf.n_eq hx
  have e2 : n = xs.length := e1.trans (mkL_len _ _ _ _)
  replace e1 := Lib.hid e1
  replace e2 := Lib.hid e2
  have hcn : cnt_SignalCellS xs = (xs.map cnt_SignalCell).sum := rfl
  rw [hcn] at h1 ⊢
  go_enter Tryz.func22, Tryz.ntmps22
  go_wp2_with fail
  go_loopw [5, 1] (fun a l wr => ∃ (i : Nat) (m : Int), i ≤ n ∧ a = .int .i64 i ∧ l = .int .i64 m ∧ 0 ≤ m ∧ Hid (m = k + (((xs.take i).map cnt_SignalCell).sum : Nat)) ∧ Below w.heap.size w wr) (fun a _ _ => n - (intOf a).toNat)
  case atStart => exact ⟨0, k, Nat.zero_le _, rfl, rfl, h0, Lib.hid (by simp), Below.refl _ _⟩
  case round =>
    obtain ⟨i, m, hi, rfl, rfl, hm, hs, hb⟩ := hrel
    by_cases hlt : i < n
    · have hil : i < xs.length := by have := e2.out; omega
      have hml : i < (mk_SignalCellS xs k).length := by have := e1.out; omega
      have hst := Lib.hid (sum_take' cnt_SignalCell hil)
      have hle := Lib.hid (sum_take_le' cnt_SignalCell xs (i + 1))
      have hget : (mk_SignalCellS xs k)[i] = mk_SignalCell xs[i] m := by rw [hs.out]; exact mkL_get _ _ _ _ _ hil _
      obtain ⟨b, o, A3, c3, g3, A4, c4, g4, A5, c5, g5, rfl, _, gm3, gm4, gm5, q0, q1, q2, q3, q4, q5, s3, s4, s5⟩ := (hx.kb hf hb).at_ i hml
      have hblt : b < wr.heap.size := World.block_lt_of_cell? wr _ q0
      rw [hget] at q0 q1 q2 q3 q4 q5 s3 s4 s5
      replace hget := Lib.hid hget
      have hcx := Lib.hid (show cnt_SignalCell xs[i] = 1 + 1 + 1 + cnt_BoolS xs[i].g_On + cnt_BoolS xs[i].g_Bound + cnt_BoolS xs[i].g_Fired from rfl)
      simp only [mk_SignalCell] at q0 q1 q2 q3 q4 q5 s3 s4 s5
      have hmb : m + 1 + 1 + 1 + (cnt_BoolS xs[i].g_On : Nat) + (cnt_BoolS xs[i].g_Bound : Nat) + (cnt_BoolS xs[i].g_Fired : Nat) ≤ 4611686018427387904 := by have := hs.out; have := hst.out; have := hle.out; have := hcx.out; omega
      go_wp2_with fail
      refine (heldBoolS_any _ _ _ _ g3 _ (m + 1 + 1 + 1) (s3.kb (fun x hx => ⟨Nat.zero_le _, Nat.lt_of_lt_of_le (hf x (gm3 x hx)).2 hb.size⟩) (Below.refl _ _)) (fun x hx => ⟨Nat.zero_le _, Nat.lt_of_lt_of_le (hf x (gm3 x hx)).2 hb.size⟩) (by omega) (by have := hs.out; have := hst.out; have := hle.out; have := hcx.out; omega)).mono ?_
      rintro e w1 ⟨rfl, z1⟩
      have zz1 : Below wr.heap.size wr w1 := z1
      have bb1 : Below w.heap.size w w1 := hb.trans (zz1.mono hb.size)
      replace q0 := (z1.cell (p := ⟨b, _, none⟩) hblt).trans q0
      replace q1 := (z1.cell (p := ⟨b, _, none⟩) hblt).trans q1
      replace q2 := (z1.cell (p := ⟨b, _, none⟩) hblt).trans q2
      replace q3 := (z1.cell (p := ⟨b, _, none⟩) hblt).trans q3
      replace q4 := (z1.cell (p := ⟨b, _, none⟩) hblt).trans q4
      replace q5 := (z1.cell (p := ⟨b, _, none⟩) hblt).trans q5
      go_wp2_with fail
      refine (heldBoolS_any _ _ _ _ g4 _ (m + 1 + 1 + 1 + (cnt_BoolS xs[i].g_On : Nat)) (s4.kb (fun x hx => ⟨Nat.zero_le _, Nat.lt_of_lt_of_le (hf x (gm4 x hx)).2 hb.size⟩) (zz1)) (fun x hx => ⟨Nat.zero_le _, Nat.lt_of_lt_of_le (hf x (gm4 x hx)).2 bb1.size⟩) (by omega) (by have := hs.out; have := hst.out; have := hle.out; have := hcx.out; omega)).mono ?_
      rintro e w2 ⟨rfl, z2⟩
      have zz2 : Below wr.heap.size wr w2 := zz1.trans (z2.mono zz1.size)
      have bb2 : Below w.heap.size w w2 := hb.trans (zz2.mono hb.size)
      replace q0 := (z2.cell (p := ⟨b, _, none⟩) (Nat.lt_of_lt_of_le hblt zz1.size)).trans q0
      replace q1 := (z2.cell (p := ⟨b, _, none⟩) (Nat.lt_of_lt_of_le hblt zz1.size)).trans q1
      replace q2 := (z2.cell (p := ⟨b, _, none⟩) (Nat.lt_of_lt_of_le hblt zz1.size)).trans q2
      replace q3 := (z2.cell (p := ⟨b, _, none⟩) (Nat.lt_of_lt_of_le hblt zz1.size)).trans q3
      replace q4 := (z2.cell (p := ⟨b, _, none⟩) (Nat.lt_of_lt_of_le hblt zz1.size)).trans q4
      replace q5 := (z2.cell (p := ⟨b, _, none⟩) (Nat.lt_of_lt_of_le hblt zz1.size)).trans q5
      go_wp2_with fail
      refine (heldBoolS_any _ _ _ _ g5 _ (m + 1 + 1 + 1 + (cnt_BoolS xs[i].g_On : Nat) + (cnt_BoolS xs[i].g_Bound : Nat)) (s5.kb (fun x hx => ⟨Nat.zero_le _, Nat.lt_of_lt_of_le (hf x (gm5 x hx)).2 hb.size⟩) (zz2)) (fun x hx => ⟨Nat.zero_le _, Nat.lt_of_lt_of_le (hf x (gm5 x hx)).2 bb2.size⟩) (by omega) (by have := hs.out; have := hst.out; have := hle.out; have := hcx.out; omega)).mono ?_
      rintro e w3 ⟨rfl, z3⟩
      have zz3 : Below wr.heap.size wr w3 := zz2.trans (z3.mono zz2.size)
      have bb3 : Below w.heap.size w w3 := hb.trans (zz3.mono hb.size)
      replace q0 := (z3.cell (p := ⟨b, _, none⟩) (Nat.lt_of_lt_of_le hblt zz2.size)).trans q0
      replace q1 := (z3.cell (p := ⟨b, _, none⟩) (Nat.lt_of_lt_of_le hblt zz2.size)).trans q1
      replace q2 := (z3.cell (p := ⟨b, _, none⟩) (Nat.lt_of_lt_of_le hblt zz2.size)).trans q2
      replace q3 := (z3.cell (p := ⟨b, _, none⟩) (Nat.lt_of_lt_of_le hblt zz2.size)).trans q3
      replace q4 := (z3.cell (p := ⟨b, _, none⟩) (Nat.lt_of_lt_of_le hblt zz2.size)).trans q4
      replace q5 := (z3.cell (p := ⟨b, _, none⟩) (Nat.lt_of_lt_of_le hblt zz2.size)).trans q5
      go_wp2_with fail
      go_roundw
      case rel => exact ⟨i + 1, _, by omega, by go_num, rfl, by omega, Lib.hid (by have := hs.out; have := hst.out; have := hcx.out; omega), bb3⟩
      case measure => simp [intOf]; omega
    · go_wp2_with fail
      go_ret
      refine ⟨ret_i ?_, hb⟩
      have h2 := hs.out
      rw [List.take_of_length_le (by have := e2.out; omega)] at h2
      exact h2

end Go.Proofs.YtpbniieiinhliaaGreat
