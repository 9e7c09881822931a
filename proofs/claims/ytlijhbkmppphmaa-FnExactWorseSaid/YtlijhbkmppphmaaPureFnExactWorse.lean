/- The plain half of FnExactWorse: what the printed functions compute, over numbers and lists alone. No condition. -/
import Derived.Test.YtlijhbkmppphmaaXFnExactWorsex
namespace Go.Proofs.Ytlijhbkmppphmaa.Pure
open Go.RowKit Go.Proofs.Ytlijhbkmppphmaa.XFnExactWorse Go.Proofs.YtlijhbkmppphmaaW.PrintWords Go.Proofs.YtlijhbkmppphmaaW.PrintLast Go.Proofs.YtlijhbkmppphmaaW.PrintMore
set_option linter.unusedVariables false
set_option linter.unusedSimpArgs false
theorem wf64 {x : Int} (h : (Lit.int .i64 x).wf = true) : -9223372036854775808 ≤ x ∧ x ≤ 9223372036854775807 := by
  simp [Lit.wf, IntKind.min, IntKind.max, IntKind.signed, IntKind.bits] at h
  omega
theorem w64 {x : Int} (h1 : -9223372036854775808 ≤ x) (h2 : x ≤ 9223372036854775807) : wrap64 x = x := by
  unfold wrap64
  omega
theorem in_eq (a b c : Int) : impl_in.f a b c = some (decide (b ≤ a ∧ a ≤ c)) := by
  unfold impl_in.f
  by_cases h : b ≤ a <;> simp [h]
theorem l1In_eq (a b c : Int) : spec_l1In.f a b c = some (decide (b ≤ a ∧ a ≤ c)) := by
  unfold spec_l1In.f
  by_cases h : b ≤ a <;> simp [h]
theorem iDriftOk_eq (n d : Int) : impl_DriftOk.f n d = some (decide (1 ≤ d ∧ d ≤ 1000000 ∧ 0 ≤ n ∧ 2 * n ≤ d)) := by
  unfold impl_DriftOk.f
  simp only [in_eq, Option.bind_some, decide_eq_true_eq]
  by_cases h : 1 ≤ d ∧ d ≤ 1000000
  · rw [if_pos h]
    by_cases h2 : 0 ≤ n ∧ n ≤ d
    · rw [if_pos h2, w64 (by omega) (by omega)]
      simp only [Option.some.injEq, decide_eq_decide]
      omega
    · rw [if_neg h2]
      simp only [Option.some.injEq]
      exact (decide_eq_false (by omega)).symm
  · rw [if_neg h]
    simp only [Option.some.injEq]
    exact (decide_eq_false (by omega)).symm
theorem sDriftOk_eq (n d : Int) : spec_DriftOk.f n d = some (decide (1 ≤ d ∧ d ≤ 1000000 ∧ 0 ≤ n ∧ 2 * n ≤ d)) := by
  unfold spec_DriftOk.f
  simp only [l1In_eq, Option.bind_some, decide_eq_true_eq]
  by_cases h : 1 ≤ d ∧ d ≤ 1000000
  · rw [if_pos h]
    by_cases h2 : 0 ≤ n ∧ n ≤ d
    · rw [if_pos h2, w64 (by omega) (by omega)]
      simp only [Option.some.injEq, decide_eq_decide]
      omega
    · rw [if_neg h2]
      simp only [Option.some.injEq]
      exact (decide_eq_false (by omega)).symm
  · rw [if_neg h]
    simp only [Option.some.injEq]
    exact (decide_eq_false (by omega)).symm
theorem toDrift_eq (a b : Int) : laws_toDrift.f a b = some (a, b) := rfl
theorem eqDrift_self (a b : Int) : laws_eqDrift.f a b a b = some true := by
  unfold laws_eqDrift.f
  simp
theorem FnExactWorse (a0_0 a0_1 a1_0 a1_1 : Int) (_h : (Lit.int .i64 a0_0).wf = true ∧ (Lit.int .i64 a0_1).wf = true) (_h1 : (Lit.int .i64 a1_0).wf = true ∧ (Lit.int .i64 a1_1).wf = true) :
    ∃ k, laws_FnExactWorse.f k a0_0 a0_1 a1_0 a1_1 = some true := by
  have hj : ∀ b a c d e, ∃ v, impl_Worse.j0 1 b a c d e = some v ∧ spec_Worse.j0 1 b a c d e = some v := by
    intro b a c d e
    unfold impl_Worse.j0 spec_Worse.j0
    cases b with
    | true => exact ⟨_, rfl, rfl⟩
    | false =>
      simp only [Bool.false_eq_true, if_false]
      split <;> exact ⟨_, rfl, rfl⟩
  have hv : ∃ v, impl_Worse.f 1 a0_0 a0_1 a1_0 a1_1 = some v ∧ spec_Worse.f 1 a0_0 a0_1 a1_0 a1_1 = some v := by
    unfold impl_Worse.f spec_Worse.f
    simp only [iDriftOk_eq, sDriftOk_eq, Option.bind_some]
    split <;> exact hj _ _ _ _ _
  obtain ⟨v, hi, hs⟩ := hv
  refine ⟨1, ?_⟩
  unfold laws_FnExactWorse.f
  simp [toDrift_eq, hi, hs, eqDrift_self]

end Go.Proofs.Ytlijhbkmppphmaa.Pure
