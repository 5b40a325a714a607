/- For every set with signals, every temperature, every list of cells, every schedule and every number of steps, the program's RunSignals returns what the reference's returns. No conditions. -/
import Derived.Test.YtpbniieiinhliaaGreatRows
import Derived.Test.YtpbniieiinhliaaGreatRnT
import Derived.OpenShut
import Derived.ShutString
import Derived.ChangeOld
import Derived.Below
set_option linter.unusedVariables false
set_option linter.unusedSimpArgs false
namespace Go.Proofs.YtpbniieiinhliaaGreat
open Go.ChangeShapes Go.WideShapes Go.ChangeAt Go.RowKit

theorem ownRn : ownKnob Tryz.prog.godebug = none := by kernel_rfl
theorem laidRn : laidOutB Tryz.prog = true := by kernel_rfl

set_option maxRecDepth 100000 in
theorem runSignals_lifted (os : Os) (started : os.Started) (H : Type) (enc : TypeId × Value → H) :
    ReturnsInHanded {} Tryz.checked os 5 .any (Rows.fnExactRunSignalsSpec.pre6 enc Tryz.prog Tryz.f5 Rows.fnExactRunSignalsRow.domain false) (Rows.fnExactRunSignalsSpec.post enc Tryz.prog Tryz.f5 false true false false) := by
  refine returnsInHanded_of_change (C := Tryz.checked) ownRn started (by kernel_rfl) Tryz.func5
    (ChangeSpec.witness6 (enc := enc) (C := Tryz.checked) false ⟨#[], #[.agg #[.slice none 0 0, .slice none 0 0], .int .i64 0, .slice none 0 0, .slice none 0 0, .int .i64 0], []⟩ 8 (by kernel_rfl) (by kernel_rfl) (by kernel_rfl) (by kernel_rfl)) ?_
  intro W base args ds gs before hval0 hW hcnd _
  have hval : ∀ (j : Nat) t v, Tryz.f5.params[j]? = some t → args[j]? = some v → Value.okWide Tryz.prog W .any base t v := hval0
  have hW' := hW
  obtain ⟨p, q, hA0, hV, rfl, hfz, hnd⟩ := hW
  have hA : DataW.TrodAll enc Tryz.prog W 0 (fun _ => true) true Tryz.f5.params.toList args.toList ds p := hA0
  rw [Tryz.params5] at hA hval
  obtain ⟨v0, vs0, d0, ds0, p0, q0, hargs, rfl, rfl, h0, r0⟩ := trodAll_cons hA
  obtain ⟨v1, vs1, d1, ds1, p1, q1, rfl, rfl, rfl, h1, r1⟩ := trodAll_cons r0
  obtain ⟨v2, vs2, d2, ds2, p2, q2, rfl, rfl, rfl, h2, r2⟩ := trodAll_cons r1
  obtain ⟨v3, vs3, d3, ds3, p3, q3, rfl, rfl, rfl, h3, r3⟩ := trodAll_cons r2
  obtain ⟨v4, vs4, d4, ds4, p4, q4, rfl, rfl, rfl, h4, r4⟩ := trodAll_cons r3
  obtain ⟨rfl, rfl, rfl⟩ := trodAll_nil r4
  obtain rfl : args = #[v0, v1, v2, v3, v4] := by cases args; simp_all
  obtain ⟨rfl, rfl⟩ := trodVars_none hV
  obtain ⟨cs0, rfl, _⟩ := okWide_struct Tryz.underlying25 (hval 0 25 v0 rfl rfl)
  have k0 := h0
  have lt0 : ∀ x ∈ p0, x.block < W.heap.size := by obtain ⟨m, hm⟩ := k0; exact DataW.trod_lt m _ _ _ hm
  obtain ⟨A0, n0, c0, f0, A1, n1, c1, f1, d, hcs, gw, g, tw, t, ok⟩ : ∃ A0 n0 c0 f0 A1 n1 c1 f1, ∃ d : D_SignalSet, (Value.agg cs0).cells.toList = [.slice A0 n0 c0, .slice A1 n1 c1] ∧ Within f0 0 W.heap.size ∧ S_GlueS W f0 (.slice A0 n0 c0) d.g_Glues ∧ Within f1 0 W.heap.size ∧ S_SignalTileS W f1 (.slice A1 n1 c1) d.g_Tiles ∧ Ok_SignalSet d := by
    obtain ⟨fuel, hf⟩ := h0
    exact o_set hf
  obtain rfl : cs0 = #[.slice A0 n0 c0, .slice A1 n1 c1] := by
    cases cs0; simp [Value.cells] at hcs; subst hcs; rfl
  obtain ⟨a1, rfl, rfl, rfl, w1⟩ := open_int Tryz.underlying2 (hval 1 2 v1 rfl rfl) h1
  obtain ⟨A2, n2, c2, rfl⟩ := okWide_slice Tryz.underlying26 (hval 2 26 v2 rfl rfl)
  have k2 := h2
  have lt2 : ∀ x ∈ p2, x.block < W.heap.size := by obtain ⟨m, hm⟩ := k2; exact DataW.trod_lt m _ _ _ hm
  obtain ⟨f2, xs, cw, c⟩ : ∃ f2, ∃ xs : List D_SignalCell, Within f2 0 W.heap.size ∧ S_SignalCellS W f2 (.slice A2 n2 c2) xs := by
    obtain ⟨fuel, hf⟩ := h2
    obtain ⟨A, n, c, f, xs, e, h1, h2⟩ := o_cells hf
    simp [Value.cells] at e
    obtain ⟨rfl, rfl, rfl⟩ := e
    exact ⟨f, xs, h1, h2⟩
  obtain ⟨A3, n3, c3, rfl⟩ := okWide_slice Tryz.underlying57 (hval 3 57 v3 rfl rfl)
  have k3 := h3
  have lt3 : ∀ x ∈ p3, x.block < W.heap.size := by obtain ⟨m, hm⟩ := k3; exact DataW.trod_lt m _ _ _ hm
  obtain ⟨f3, sch, sw, sh⟩ : ∃ f3, ∃ sch : List Int, Within f3 0 W.heap.size ∧ S_Int64S W f3 (.slice A3 n3 c3) sch := by
    obtain ⟨fuel, hf⟩ := h3
    obtain ⟨A, n, c, f, xs, e, h1, h2⟩ := o_ints hf
    simp [Value.cells] at e
    obtain ⟨rfl, rfl, rfl⟩ := e
    exact ⟨f, xs, h1, h2⟩
  obtain ⟨a4, rfl, rfl, rfl, w4⟩ := open_int Tryz.underlying2 (hval 4 2 v4 rfl rfl) h4
  clear hA0 hval0
  refine (law_run W A0 n0 c0 f0 A1 n1 c1 f1 d ⟨g, gw, t, tw⟩ ok a1 A2 n2 c2 f2 xs ⟨c, cw⟩ A3 n3 c3 f3 sch ⟨sh, sw⟩ a4).mono fun e W' ⟨he, bel⟩ => ?_
  subst he
  exact ⟨_, rfl, _, _, _, [], _, [], hW', trodAll_mk1 (shut_bool Tryz.underlying4 _), (trodAll_cons_mk (Below.trod laidRn (by kernel_rfl) (of_decide_eq_true (by kernel_rfl)) k0 bel lt0) (trodAll_cons_mk (shut_int Tryz.underlying2 w1) (trodAll_cons_mk (Below.trod laidRn (by kernel_rfl) (of_decide_eq_true (by kernel_rfl)) k2 bel lt2) (trodAll_cons_mk (Below.trod laidRn (by kernel_rfl) (of_decide_eq_true (by kernel_rfl)) k3 bel lt3) (trodAll_cons_mk (shut_int Tryz.underlying2 w4) trodAll_mk0))))), rfl, bel.frame _, fun h => by cases h⟩

theorem runSignals_over : Rows.fnExactRunSignalsRow.holds Tryz.pinned (OpenSpec.ofChange Rows.fnExactRunSignalsSpec) :=
  OpenClaim.holds_of_wide 5 Tryz.f5 rfl rfl rfl rfl rfl rfl rfl ⟨rfl, rfl, rfl, rfl, rfl⟩ rfl rfl rfl rfl rfl (by kernel_rfl) Tryz.func5 (by kernel_rfl)
    (of_decide_eq_true (by kernel_rfl)) (by unfold Func.isWrapper; first | (rw [if_pos (by decide +kernel)]; kernel_rfl) | (rw [if_neg (by decide +kernel)]; exact ⟨rfl, rfl⟩))
    (fun os started H enc _ => runSignals_lifted os started H enc)

theorem fnExactRunSignals_proved : Rows.FnExactRunSignalsSaid := runSignals_over
end Go.Proofs.YtpbniieiinhliaaGreat
