/- For every set with signals, every temperature, every list of cells and every event, the program's PlayEvent returns what the reference's returns. No conditions. -/
import Derived.Test.YtpbniieiinhliaaGreatRows
import Derived.Test.YtpbniieiinhliaaGreatPyT
import Derived.OpenShut
import Derived.ShutString
import Derived.ChangeOld
import Derived.Below
set_option linter.unusedVariables false
set_option linter.unusedSimpArgs false
namespace Go.Proofs.YtpbniieiinhliaaGreat
open Go.ChangeShapes Go.WideShapes Go.ChangeAt Go.RowKit

set_option maxRecDepth 100000 in
theorem o_event {H : Type} {enc : TypeId × Value → H} {w : World} {fuel : Nat} {cs : List Value} {x : DataW H × List MemPlace} (h : TT enc w fuel 49 cs x) : ∃ ev : D_SignalEvent, cs = [.int .i64 ev.g_Kind, .int .i64 ev.g_At.g_X, .int .i64 ev.g_At.g_Y, .int .i64 ev.g_Num] := by
  obtain ⟨hl, m, hf⟩ := o_field Tryz.underlying49 h
  rw [show Tryz.prog.cellsOf _ = 4 from by kernel_rfl] at hl
  obtain ⟨a, b, c, d, rfl⟩ := len4 hl
  obtain ⟨y0, h0⟩ := hf 0 _ rfl
  obtain ⟨y1, h1⟩ := hf 1 _ rfl
  obtain ⟨y2, h2⟩ := hf 2 _ rfl
  rw [show Tryz.prog.cellsOf _ = 1 from by kernel_rfl] at h0 h2
  rw [show Tryz.prog.cellsOf _ = 2 from by kernel_rfl] at h1
  obtain ⟨_, m2, hf2⟩ := o_field Tryz.underlying47 h1
  obtain ⟨z0, g0⟩ := hf2 0 _ rfl
  obtain ⟨z1, g1⟩ := hf2 1 _ rfl
  rw [show Tryz.prog.cellsOf _ = 1 from by kernel_rfl] at g0 g1
  obtain ⟨k, e0, _⟩ := DataW.trod_int Tryz.underlying2 h0
  obtain ⟨px, e1, _⟩ := DataW.trod_int Tryz.underlying2 g0
  obtain ⟨py, e2, _⟩ := DataW.trod_int Tryz.underlying2 g1
  obtain ⟨n, e3, _⟩ := DataW.trod_int Tryz.underlying2 h2
  simp at e0 e1 e2 e3
  subst e0 e1 e2 e3
  exact ⟨⟨k, ⟨px, py⟩, n⟩, rfl⟩

theorem ownPl : ownKnob Tryz.prog.godebug = none := by kernel_rfl
theorem laidPl : laidOutB Tryz.prog = true := by kernel_rfl

set_option maxRecDepth 100000 in
theorem playEvent_lifted (os : Os) (started : os.Started) (H : Type) (enc : TypeId × Value → H) :
    ReturnsInHanded {} Tryz.checked os 4 .any (Rows.fnExactPlayEventSpec.pre6 enc Tryz.prog Tryz.f4 Rows.fnExactPlayEventRow.domain false) (Rows.fnExactPlayEventSpec.post enc Tryz.prog Tryz.f4 false true false false) := by
  refine returnsInHanded_of_change (C := Tryz.checked) ownPl started (by kernel_rfl) Tryz.func4
    (ChangeSpec.witness6 (enc := enc) (C := Tryz.checked) false ⟨#[], #[.agg #[.slice none 0 0, .slice none 0 0], .int .i64 0, .slice none 0 0, .agg #[.int .i64 0, .int .i64 0, .int .i64 0, .int .i64 0]], []⟩ 8 (by kernel_rfl) (by kernel_rfl) (by kernel_rfl) (by kernel_rfl)) ?_
  intro W base args ds gs before hval0 hW hcnd _
  have hval : ∀ (j : Nat) t v, Tryz.f4.params[j]? = some t → args[j]? = some v → Value.okWide Tryz.prog W .any base t v := hval0
  have hW' := hW
  obtain ⟨p, q, hA0, hV, rfl, hfz, hnd⟩ := hW
  have hA : DataW.TrodAll enc Tryz.prog W 0 (fun _ => true) true Tryz.f4.params.toList args.toList ds p := hA0
  rw [Tryz.params4] at hA hval
  obtain ⟨v0, vs0, d0, ds0, p0, q0, hargs, rfl, rfl, h0, r0⟩ := trodAll_cons hA
  obtain ⟨v1, vs1, d1, ds1, p1, q1, rfl, rfl, rfl, h1, r1⟩ := trodAll_cons r0
  obtain ⟨v2, vs2, d2, ds2, p2, q2, rfl, rfl, rfl, h2, r2⟩ := trodAll_cons r1
  obtain ⟨v3, vs3, d3, ds3, p3, q3, rfl, rfl, rfl, h3, r3⟩ := trodAll_cons r2
  obtain ⟨rfl, rfl, rfl⟩ := trodAll_nil r3
  obtain rfl : args = #[v0, v1, v2, v3] := by cases args; simp_all
  obtain ⟨rfl, rfl⟩ := trodVars_none hV
  obtain ⟨cs0, rfl, _⟩ := okWide_struct Tryz.underlying25 (hval 0 25 v0 rfl rfl)
  have k0 := h0
  have lt0 : ∀ x ∈ p0, x.block < W.heap.size := by obtain ⟨m, hm⟩ := k0; exact DataW.trod_lt m _ _ _ hm
  obtain ⟨A0, n0, c0, f0, A1, n1, c1, f1, d, hcs, gw, g, tw, t, ok⟩ : ∃ A0 n0 c0 f0 A1 n1 c1 f1, ∃ d : D_SignalSet, (Value.agg cs0).cells.toList = [.slice A0 n0 c0, .slice A1 n1 c1] ∧ Within f0 0 W.heap.size ∧ S_GlueS W f0 (.slice A0 n0 c0) d.g_Glues ∧ Within f1 0 W.heap.size ∧ S_SignalTileS W f1 (.slice A1 n1 c1) d.g_Tiles ∧ Ok_SignalSet d := by
    obtain ⟨fuel, hf⟩ := h0
    exact o_set hf
  obtain rfl : cs0 = #[.slice A0 n0 c0, .slice A1 n1 c1] := by
    cases cs0; simp [Value.cells] at hcs; subst hcs; rfl
  obtain ⟨a1, rfl, rfl, rfl, w1⟩ := open_int Tryz.underlying2 (hval 1 2 v1 rfl rfl) h1
  obtain ⟨A2, n2, c2, rfl⟩ := okWide_slice Tryz.underlying26 (hval 2 26 v2 rfl rfl)
  have k2 := h2
  have lt2 : ∀ x ∈ p2, x.block < W.heap.size := by obtain ⟨m, hm⟩ := k2; exact DataW.trod_lt m _ _ _ hm
  obtain ⟨f2, xs, cw, c⟩ : ∃ f2, ∃ xs : List D_SignalCell, Within f2 0 W.heap.size ∧ S_SignalCellS W f2 (.slice A2 n2 c2) xs := by
    obtain ⟨fuel, hf⟩ := h2
    obtain ⟨A, n, c, f, xs, e, h1, h2⟩ := o_cells hf
    simp [Value.cells] at e
    obtain ⟨rfl, rfl, rfl⟩ := e
    exact ⟨f, xs, h1, h2⟩
  obtain ⟨cs3, rfl, _⟩ := okWide_struct Tryz.underlying49 (hval 3 49 v3 rfl rfl)
  have k3 := h3
  have lt3 : ∀ x ∈ p3, x.block < W.heap.size := by obtain ⟨m, hm⟩ := k3; exact DataW.trod_lt m _ _ _ hm
  obtain ⟨ev, hev⟩ : ∃ ev : D_SignalEvent, (Value.agg cs3).cells.toList = [.int .i64 ev.g_Kind, .int .i64 ev.g_At.g_X, .int .i64 ev.g_At.g_Y, .int .i64 ev.g_Num] := by
    obtain ⟨fuel, hf⟩ := h3
    exact o_event hf
  obtain rfl : cs3 = #[.int .i64 ev.g_Kind, .int .i64 ev.g_At.g_X, .int .i64 ev.g_At.g_Y, .int .i64 ev.g_Num] := by
    cases cs3; simp [Value.cells] at hev; subst hev; rfl
  clear hA0 hval0
  refine (law_play W A0 n0 c0 f0 A1 n1 c1 f1 d ⟨g, gw, t, tw⟩ ok a1 A2 n2 c2 f2 xs ⟨c, cw⟩ ev).mono fun e W' ⟨he, bel⟩ => ?_
  subst he
  exact ⟨_, rfl, _, _, _, [], _, [], hW', trodAll_mk1 (shut_bool Tryz.underlying4 _), (trodAll_cons_mk (Below.trod laidPl (by kernel_rfl) (of_decide_eq_true (by kernel_rfl)) k0 bel lt0) (trodAll_cons_mk (shut_int Tryz.underlying2 w1) (trodAll_cons_mk (Below.trod laidPl (by kernel_rfl) (of_decide_eq_true (by kernel_rfl)) k2 bel lt2) (trodAll_cons_mk (Below.trod laidPl (by kernel_rfl) (of_decide_eq_true (by kernel_rfl)) k3 bel lt3) trodAll_mk0)))), rfl, bel.frame _, fun h => by cases h⟩

theorem playEvent_over : Rows.fnExactPlayEventRow.holds Tryz.pinned (OpenSpec.ofChange Rows.fnExactPlayEventSpec) :=
  OpenClaim.holds_of_wide 4 Tryz.f4 rfl rfl rfl rfl rfl rfl rfl ⟨rfl, rfl, rfl, rfl, rfl⟩ rfl rfl rfl rfl rfl (by kernel_rfl) Tryz.func4 (by kernel_rfl)
    (of_decide_eq_true (by kernel_rfl)) (by unfold Func.isWrapper; first | (rw [if_pos (by decide +kernel)]; kernel_rfl) | (rw [if_neg (by decide +kernel)]; exact ⟨rfl, rfl⟩))
    (fun os started H enc _ => playEvent_lifted os started H enc)

theorem fnExactPlayEvent_proved : Rows.FnExactPlayEventSaid := playEvent_over
end Go.Proofs.YtpbniieiinhliaaGreat
