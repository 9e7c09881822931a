/- The plain half of FnExactDriftOk: what the printed functions compute, over numbers and lists alone. No condition. -/
import Derived.Test.YtlgfabkffnmghaaPFnExactDriftOkx
namespace Go.Proofs.Ytlgfabkffnmghaa.Pure
open Go.RowKit Go.Proofs.Ytlgfabkffnmghaa.PFnExactDriftOk Go.Proofs.YtlgfabkffnmghaaW.PrintWords Go.Proofs.YtlgfabkffnmghaaW.PrintLast Go.Proofs.YtlgfabkffnmghaaW.PrintMore
set_option linter.unusedVariables false
set_option linter.unusedSimpArgs false
theorem wf64 {x : Int} (h : (Lit.int .i64 x).wf = true) : -9223372036854775808 ≤ x ∧ x ≤ 9223372036854775807 := by
  simp [Lit.wf, IntKind.min, IntKind.max, IntKind.signed, IntKind.bits] at h
  omega
theorem w64 {x : Int} (h1 : -9223372036854775808 ≤ x) (h2 : x ≤ 9223372036854775807) : wrap64 x = x := by
  unfold wrap64
  omega
theorem in_eq (a b c : Int) : impl_in.f a b c = some (decide (b ≤ a ∧ a ≤ c)) := by
  unfold impl_in.f
  by_cases h : b ≤ a <;> simp [h]
theorem l1In_eq (a b c : Int) : spec_l1In.f a b c = some (decide (b ≤ a ∧ a ≤ c)) := by
  unfold spec_l1In.f
  by_cases h : b ≤ a <;> simp [h]
theorem iDriftOk_eq (n d : Int) : impl_DriftOk.f n d = some (decide (1 ≤ d ∧ d ≤ 1000000 ∧ 0 ≤ n ∧ 2 * n ≤ d)) := by
  unfold impl_DriftOk.f
  simp only [in_eq, Option.bind_some, decide_eq_true_eq]
  by_cases h : 1 ≤ d ∧ d ≤ 1000000
  · rw [if_pos h]
    by_cases h2 : 0 ≤ n ∧ n ≤ d
    · rw [if_pos h2, w64 (by omega) (by omega)]
      simp only [Option.some.injEq, decide_eq_decide]
      omega
    · rw [if_neg h2]
      simp only [Option.some.injEq]
      exact (decide_eq_false (by omega)).symm
  · rw [if_neg h]
    simp only [Option.some.injEq]
    exact (decide_eq_false (by omega)).symm
theorem sDriftOk_eq (n d : Int) : spec_DriftOk.f n d = some (decide (1 ≤ d ∧ d ≤ 1000000 ∧ 0 ≤ n ∧ 2 * n ≤ d)) := by
  unfold spec_DriftOk.f
  simp only [l1In_eq, Option.bind_some, decide_eq_true_eq]
  by_cases h : 1 ≤ d ∧ d ≤ 1000000
  · rw [if_pos h]
    by_cases h2 : 0 ≤ n ∧ n ≤ d
    · rw [if_pos h2, w64 (by omega) (by omega)]
      simp only [Option.some.injEq, decide_eq_decide]
      omega
    · rw [if_neg h2]
      simp only [Option.some.injEq]
      exact (decide_eq_false (by omega)).symm
  · rw [if_neg h]
    simp only [Option.some.injEq]
    exact (decide_eq_false (by omega)).symm
theorem toDrift_eq (a b : Int) : laws_toDrift.f a b = some (a, b) := rfl

theorem FnExactDriftOk (a0_0 a0_1 : Int) (_h : (Lit.int .i64 a0_0).wf = true ∧ (Lit.int .i64 a0_1).wf = true) : laws_FnExactDriftOk.f a0_0 a0_1 = some true := by
  unfold laws_FnExactDriftOk.f
  simp [toDrift_eq, iDriftOk_eq, sDriftOk_eq]

end Go.Proofs.Ytlgfabkffnmghaa.Pure
