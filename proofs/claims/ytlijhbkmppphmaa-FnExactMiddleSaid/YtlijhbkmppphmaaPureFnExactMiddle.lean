/- The plain half of FnExactMiddle: what the printed functions compute, over numbers and lists alone. No condition. -/
import Derived.Test.YtlijhbkmppphmaaXFnExactMiddlex
namespace Go.Proofs.Ytlijhbkmppphmaa.Pure
open Go.RowKit Go.Proofs.Ytlijhbkmppphmaa.XFnExactMiddle Go.Proofs.YtlijhbkmppphmaaW.PrintWords Go.Proofs.YtlijhbkmppphmaaW.PrintLast Go.Proofs.YtlijhbkmppphmaaW.PrintMore
set_option linter.unusedVariables false
set_option linter.unusedSimpArgs false
theorem l1In_eq (a b c : Int) : spec_l1In.f a b c = some (decide (b ≤ a ∧ a ≤ c)) := by
  unfold spec_l1In.f
  by_cases h : b ≤ a <;> simp [h]
theorem iIvalOk_eq (a b : Int) : impl_IvalOk.f a b = some (decide (-1000000000000 ≤ a ∧ a ≤ b ∧ b ≤ 1000000000000)) := by
  unfold impl_IvalOk.f
  by_cases h : -1000000000000 ≤ a <;> by_cases h2 : a ≤ b <;> simp [h, h2]
theorem sIvalOk_eq (a b : Int) : spec_IvalOk.f a b = some (decide (-1000000000000 ≤ a ∧ a ≤ b ∧ b ≤ 1000000000000)) := by
  unfold spec_IvalOk.f
  simp only [l1In_eq, Option.bind_some, decide_eq_true_eq]
  by_cases h : a ≤ b
  · rw [if_pos h]
    by_cases h2 : -1000000000000 ≤ a ∧ a ≤ 1000000000000
    · rw [if_pos h2]
      simp only [Option.some.injEq, decide_eq_decide]
      omega
    · rw [if_neg h2]
      simp only [Option.some.injEq]
      exact (decide_eq_false (by omega)).symm
  · rw [if_neg h]
    simp only [Option.some.injEq]
    exact (decide_eq_false (by omega)).symm
theorem toIval_eq (a b : Int) : laws_toIval.f a b = some (a, b) := rfl
theorem down_eq (a b : Int) : impl_down.f a b = spec_l1Down.f a b := rfl

theorem FnExactMiddle (a0_0 a0_1 : Int) (_h : (Lit.int .i64 a0_0).wf = true ∧ (Lit.int .i64 a0_1).wf = true) :
    laws_FnExactMiddle.f a0_0 a0_1 = some true := by
  have hv : ∃ v, impl_Middle.f a0_0 a0_1 = some v ∧ spec_Middle.f a0_0 a0_1 = some v := by
    unfold impl_Middle.f spec_Middle.f
    simp only [iIvalOk_eq, sIvalOk_eq, Option.bind_some, decide_eq_true_eq, down_eq]
    have hd : ∃ y, spec_l1Down.f (wrap64 (a0_0 + a0_1)) 2 = some y := by
      unfold spec_l1Down.f
      rw [if_neg (by omega)]
      split <;> exact ⟨_, rfl⟩
    obtain ⟨y, hy⟩ := hd
    rw [hy]
    by_cases c1 : -1000000000000 ≤ a0_0 ∧ a0_0 ≤ a0_1 ∧ a0_1 ≤ 1000000000000
    · rw [if_pos c1]
      exact ⟨_, rfl, rfl⟩
    · rw [if_neg c1]
      exact ⟨_, rfl, rfl⟩
  obtain ⟨v, hi, hs⟩ := hv
  unfold laws_FnExactMiddle.f
  simp [toIval_eq, hi, hs]

end Go.Proofs.Ytlijhbkmppphmaa.Pure
