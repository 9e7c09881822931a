/- The plain half of FnExactApart: what the printed functions compute, over numbers and lists alone. No condition. -/
import Derived.Test.YtlijhbkmppphmaaXFnExactApartx
namespace Go.Proofs.Ytlijhbkmppphmaa.Pure
open Go.RowKit Go.Proofs.Ytlijhbkmppphmaa.XFnExactApart Go.Proofs.YtlijhbkmppphmaaW.PrintWords Go.Proofs.YtlijhbkmppphmaaW.PrintLast Go.Proofs.YtlijhbkmppphmaaW.PrintMore
set_option linter.unusedVariables false
set_option linter.unusedSimpArgs false
theorem wf64 {x : Int} (h : (Lit.int .i64 x).wf = true) : -9223372036854775808 ≤ x ∧ x ≤ 9223372036854775807 := by
  simp [Lit.wf, IntKind.min, IntKind.max, IntKind.signed, IntKind.bits] at h
  omega
theorem w64 {x : Int} (h1 : -9223372036854775808 ≤ x) (h2 : x ≤ 9223372036854775807) : wrap64 x = x := by
  unfold wrap64
  omega
theorem l1In_eq (a b c : Int) : spec_l1In.f a b c = some (decide (b ≤ a ∧ a ≤ c)) := by
  unfold spec_l1In.f
  by_cases h : b ≤ a <;> simp [h]
theorem iIvalOk_eq (a b : Int) : impl_IvalOk.f a b = some (decide (-1000000000000 ≤ a ∧ a ≤ b ∧ b ≤ 1000000000000)) := by
  unfold impl_IvalOk.f
  by_cases h : -1000000000000 ≤ a <;> by_cases h2 : a ≤ b <;> simp [h, h2]
theorem sIvalOk_eq (a b : Int) : spec_IvalOk.f a b = some (decide (-1000000000000 ≤ a ∧ a ≤ b ∧ b ≤ 1000000000000)) := by
  unfold spec_IvalOk.f
  simp only [l1In_eq, Option.bind_some, decide_eq_true_eq]
  by_cases h : a ≤ b
  · rw [if_pos h]
    by_cases h2 : -1000000000000 ≤ a ∧ a ≤ 1000000000000
    · rw [if_pos h2]
      simp only [Option.some.injEq, decide_eq_decide]
      omega
    · rw [if_neg h2]
      simp only [Option.some.injEq]
      exact (decide_eq_false (by omega)).symm
  · rw [if_neg h]
    simp only [Option.some.injEq]
    exact (decide_eq_false (by omega)).symm
theorem toIval_eq (a b : Int) : laws_toIval.f a b = some (a, b) := rfl
theorem l1Max_eq (a b : Int) : spec_l1Max.f a b = some (mx a b) := by
  unfold spec_l1Max.f mx
  by_cases h : a > b
  · rw [if_pos h, if_neg (by omega)]
  · rw [if_neg h]
    by_cases h2 : a < b
    · rw [if_pos h2]
    · rw [if_neg h2]
      have : a = b := by omega
      rw [this]
theorem l1Min_eq (a b : Int) : spec_l1Min.f a b = some (mn a b) := by
  unfold spec_l1Min.f mn
  by_cases h : a < b
  · rw [if_pos h, if_neg (by omega)]
  · rw [if_neg h]
    by_cases h2 : b < a
    · rw [if_pos h2]
    · rw [if_neg h2]
      have : a = b := by omega
      rw [this]
theorem FnExactApart (a0_0 a0_1 a1_0 a1_1 : Int) (_h : (Lit.int .i64 a0_0).wf = true ∧ (Lit.int .i64 a0_1).wf = true) (_h1 : (Lit.int .i64 a1_0).wf = true ∧ (Lit.int .i64 a1_1).wf = true) :
    ∃ k, laws_FnExactApart.f k a0_0 a0_1 a1_0 a1_1 = some true := by
  have hv : ∃ v, impl_Apart.f a0_0 a0_1 a1_0 a1_1 = some v ∧ spec_Apart.f 1 a0_0 a0_1 a1_0 a1_1 = some v := by
    unfold impl_Apart.f spec_Apart.f
    simp only [iIvalOk_eq, sIvalOk_eq, Option.bind_some, decide_eq_true_eq]
    by_cases c1 : -1000000000000 ≤ a0_0 ∧ a0_0 ≤ a0_1 ∧ a0_1 ≤ 1000000000000
    · rw [if_pos c1, if_pos c1]
      by_cases c2 : -1000000000000 ≤ a1_0 ∧ a1_0 ≤ a1_1 ∧ a1_1 ≤ 1000000000000
      · rw [if_pos c2, decide_eq_true c2]
        refine ⟨_, rfl, ?_⟩
        simp only [spec_Apart.j0, l1Max_eq, l1Min_eq, Option.bind_some, Bool.not_true, Bool.false_eq_true, if_false, Option.some.injEq]
        rw [w64 (x := a1_0 - a0_1) (by omega) (by omega), w64 (x := a0_0 - a1_1) (by omega) (by omega), w64 (by unfold mx mn; omega) (by unfold mx mn; omega)]
        unfold mx mn
        omega
      · rw [if_neg c2, decide_eq_false c2]
        exact ⟨_, rfl, by simp [spec_Apart.j0]⟩
    · rw [if_neg c1, if_neg c1]
      exact ⟨_, rfl, by simp [spec_Apart.j0]⟩
  obtain ⟨v, hi, hs⟩ := hv
  refine ⟨1, ?_⟩
  unfold laws_FnExactApart.f
  simp [toIval_eq, hi, hs]

end Go.Proofs.Ytlijhbkmppphmaa.Pure
