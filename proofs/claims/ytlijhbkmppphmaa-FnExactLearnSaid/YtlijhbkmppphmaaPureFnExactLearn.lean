/- The plain half of FnExactLearn: what the printed functions compute, over numbers and lists alone. No condition. -/
import Derived.Test.YtlijhbkmppphmaaXFnExactLearnx
namespace Go.Proofs.Ytlijhbkmppphmaa.Pure
open Go.RowKit Go.Proofs.Ytlijhbkmppphmaa.XFnExactLearn Go.Proofs.YtlijhbkmppphmaaW.PrintWords Go.Proofs.YtlijhbkmppphmaaW.PrintLast Go.Proofs.YtlijhbkmppphmaaW.PrintMore
set_option linter.unusedVariables false
set_option linter.unusedSimpArgs false
theorem in_eq (a b c : Int) : impl_in.f a b c = some (decide (b ≤ a ∧ a ≤ c)) := by
  unfold impl_in.f
  by_cases h : b ≤ a <;> simp [h]
theorem l1In_eq (a b c : Int) : spec_l1In.f a b c = some (decide (b ≤ a ∧ a ≤ c)) := by
  unfold spec_l1In.f
  by_cases h : b ≤ a <;> simp [h]
theorem iIvalOk_eq (a b : Int) : impl_IvalOk.f a b = some (decide (-1000000000000 ≤ a ∧ a ≤ b ∧ b ≤ 1000000000000)) := by
  unfold impl_IvalOk.f
  by_cases h : -1000000000000 ≤ a <;> by_cases h2 : a ≤ b <;> simp [h, h2]
theorem sIvalOk_eq (a b : Int) : spec_IvalOk.f a b = some (decide (-1000000000000 ≤ a ∧ a ≤ b ∧ b ≤ 1000000000000)) := by
  unfold spec_IvalOk.f
  simp only [l1In_eq, Option.bind_some, decide_eq_true_eq]
  by_cases h : a ≤ b
  · rw [if_pos h]
    by_cases h2 : -1000000000000 ≤ a ∧ a ≤ 1000000000000
    · rw [if_pos h2]
      simp only [Option.some.injEq, decide_eq_decide]
      omega
    · rw [if_neg h2]
      simp only [Option.some.injEq]
      exact (decide_eq_false (by omega)).symm
  · rw [if_neg h]
    simp only [Option.some.injEq]
    exact (decide_eq_false (by omega)).symm
theorem isTime_eq (a : Int) : impl_isTime.f a = some (decide (0 ≤ a ∧ a ≤ 1000000000000)) := by
  unfold impl_isTime.f
  rw [in_eq]
  rfl
theorem l2Time_eq (a : Int) : spec_l2Time.f a = some (decide (0 ≤ a ∧ a ≤ 1000000000000)) := by
  unfold spec_l2Time.f
  rw [l1In_eq]
  rfl
theorem toIval_eq (a b : Int) : laws_toIval.f a b = some (a, b) := rfl
theorem eqIval_self (a b : Int) : laws_eqIval.f a b a b = some true := by
  unfold laws_eqIval.f
  simp
theorem eqLocal_self (b : Bool) (x y z : Int) : laws_eqLocal.f b x y z b x y z = some true := by
  unfold laws_eqLocal.f
  simp [eqIval_self]
theorem FnExactLearn (a0_0 a0_1 a1 : Int) (_h : (Lit.int .i64 a0_0).wf = true ∧ (Lit.int .i64 a0_1).wf = true) (_h1 : (Lit.int .i64 a1).wf = true) :
    laws_FnExactLearn.f a0_0 a0_1 a1 = some true := by
  have hv : ∃ v, impl_Learn.f a0_0 a0_1 a1 = some v ∧ spec_Learn.f a0_0 a0_1 a1 = some v := by
    unfold impl_Learn.f spec_Learn.f impl_LocalOk.f spec_LocalOk.f
    simp only [iIvalOk_eq, sIvalOk_eq, isTime_eq, l2Time_eq, Option.bind_some, if_true]
    by_cases c1 : -1000000000000 ≤ a0_0 ∧ a0_0 ≤ a0_1 ∧ a0_1 ≤ 1000000000000
    · rw [if_pos (decide_eq_true c1)]
      simp only [Option.bind_some]
      split <;> exact ⟨_, rfl, rfl⟩
    · rw [if_neg (by simpa using c1)]
      exact ⟨_, rfl, rfl⟩
  obtain ⟨v, hi, hs⟩ := hv
  unfold laws_FnExactLearn.f
  simp [toIval_eq, hi, hs, eqLocal_self]

end Go.Proofs.Ytlijhbkmppphmaa.Pure
