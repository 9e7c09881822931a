/- The plain half of FnExactSpread: what the printed functions compute, over numbers and lists alone. No condition. -/
import Derived.Test.YtlijhbkmppphmaaXFnExactSpreadx
namespace Go.Proofs.Ytlijhbkmppphmaa.Pure
open Go.RowKit Go.Proofs.Ytlijhbkmppphmaa.XFnExactSpread Go.Proofs.YtlijhbkmppphmaaW.PrintWords Go.Proofs.YtlijhbkmppphmaaW.PrintLast Go.Proofs.YtlijhbkmppphmaaW.PrintMore
set_option linter.unusedVariables false
set_option linter.unusedSimpArgs false
theorem in_eq (a b c : Int) : impl_in.f a b c = some (decide (b ≤ a ∧ a ≤ c)) := by
  unfold impl_in.f
  by_cases h : b ≤ a <;> simp [h]
theorem l1In_eq (a b c : Int) : spec_l1In.f a b c = some (decide (b ≤ a ∧ a ≤ c)) := by
  unfold spec_l1In.f
  by_cases h : b ≤ a <;> simp [h]
theorem iIvalOk_eq (a b : Int) : impl_IvalOk.f a b = some (decide (-1000000000000 ≤ a ∧ a ≤ b ∧ b ≤ 1000000000000)) := by
  unfold impl_IvalOk.f
  by_cases h : -1000000000000 ≤ a <;> by_cases h2 : a ≤ b <;> simp [h, h2]
theorem sIvalOk_eq (a b : Int) : spec_IvalOk.f a b = some (decide (-1000000000000 ≤ a ∧ a ≤ b ∧ b ≤ 1000000000000)) := by
  unfold spec_IvalOk.f
  simp only [l1In_eq, Option.bind_some, decide_eq_true_eq]
  by_cases h : a ≤ b
  · rw [if_pos h]
    by_cases h2 : -1000000000000 ≤ a ∧ a ≤ 1000000000000
    · rw [if_pos h2]
      simp only [Option.some.injEq, decide_eq_decide]
      omega
    · rw [if_neg h2]
      simp only [Option.some.injEq]
      exact (decide_eq_false (by omega)).symm
  · rw [if_neg h]
    simp only [Option.some.injEq]
    exact (decide_eq_false (by omega)).symm
theorem toIval_eq (a b : Int) : laws_toIval.f a b = some (a, b) := rfl
theorem eqIval_self (a b : Int) : laws_eqIval.f a b a b = some true := by
  unfold laws_eqIval.f
  simp
theorem told_eq (a b : Int) : spec_l1Told.f a b = some (if -1000000000000 ≤ a ∧ a ≤ b ∧ b ≤ 1000000000000 then (a, b, true) else (0, 0, false)) := by
  unfold spec_l1Told.f
  simp only [sIvalOk_eq, Option.bind_some, decide_eq_true_eq]
  split <;> rfl
theorem ival_eq (a b : Int) : impl_ival.f a b = some (if -1000000000000 ≤ a ∧ a ≤ b ∧ b ≤ 1000000000000 then (a, b, true) else (0, 0, false)) := by
  unfold impl_ival.f
  simp only [iIvalOk_eq, Option.bind_some, decide_eq_true_eq]
  split <;> rfl
theorem FnExactSpread (a0_0 a0_1 a1 a2 : Int) (_h : (Lit.int .i64 a0_0).wf = true ∧ (Lit.int .i64 a0_1).wf = true) (_h1 : (Lit.int .i64 a1).wf = true) (_h2 : (Lit.int .i64 a2).wf = true) :
    laws_FnExactSpread.f a0_0 a0_1 a1 a2 = some true := by
  have hv : ∃ v, impl_Spread.f a0_0 a0_1 a1 a2 = some v ∧ spec_Spread.f a0_0 a0_1 a1 a2 = some v := by
    unfold impl_Spread.f spec_Spread.f
    simp only [iIvalOk_eq, sIvalOk_eq, told_eq, ival_eq, in_eq, l1In_eq, Option.bind_some]
    repeat' split
    all_goals exact ⟨_, rfl, rfl⟩
  obtain ⟨v, hi, hs⟩ := hv
  unfold laws_FnExactSpread.f
  simp [toIval_eq, hi, hs, eqIval_self]

end Go.Proofs.Ytlijhbkmppphmaa.Pure
