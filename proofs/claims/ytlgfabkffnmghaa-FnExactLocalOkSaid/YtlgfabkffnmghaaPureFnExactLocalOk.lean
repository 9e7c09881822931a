/- The plain half of FnExactLocalOk: what the printed functions compute, over numbers and lists alone. No condition. -/
import Derived.Test.YtlgfabkffnmghaaPFnExactLocalOkx
namespace Go.Proofs.Ytlgfabkffnmghaa.Pure
open Go.RowKit Go.Proofs.Ytlgfabkffnmghaa.PFnExactLocalOk Go.Proofs.YtlgfabkffnmghaaW.PrintWords Go.Proofs.YtlgfabkffnmghaaW.PrintLast Go.Proofs.YtlgfabkffnmghaaW.PrintMore
set_option linter.unusedVariables false
set_option linter.unusedSimpArgs false
theorem in_eq (a b c : Int) : impl_in.f a b c = some (decide (b ≤ a ∧ a ≤ c)) := by
  unfold impl_in.f
  by_cases h : b ≤ a <;> simp [h]
theorem l1In_eq (a b c : Int) : spec_l1In.f a b c = some (decide (b ≤ a ∧ a ≤ c)) := by
  unfold spec_l1In.f
  by_cases h : b ≤ a <;> simp [h]
theorem iIvalOk_eq (a b : Int) : impl_IvalOk.f a b = some (decide (-1000000000000 ≤ a ∧ a ≤ b ∧ b ≤ 1000000000000)) := by
  unfold impl_IvalOk.f
  by_cases h : -1000000000000 ≤ a <;> by_cases h2 : a ≤ b <;> simp [h, h2]
theorem sIvalOk_eq (a b : Int) : spec_IvalOk.f a b = some (decide (-1000000000000 ≤ a ∧ a ≤ b ∧ b ≤ 1000000000000)) := by
  unfold spec_IvalOk.f
  simp only [l1In_eq, Option.bind_some, decide_eq_true_eq]
  by_cases h : a ≤ b
  · rw [if_pos h]
    by_cases h2 : -1000000000000 ≤ a ∧ a ≤ 1000000000000
    · rw [if_pos h2]
      simp only [Option.some.injEq, decide_eq_decide]
      omega
    · rw [if_neg h2]
      simp only [Option.some.injEq]
      exact (decide_eq_false (by omega)).symm
  · rw [if_neg h]
    simp only [Option.some.injEq]
    exact (decide_eq_false (by omega)).symm
theorem isTime_eq (a : Int) : impl_isTime.f a = some (decide (0 ≤ a ∧ a ≤ 1000000000000)) := by
  unfold impl_isTime.f
  rw [in_eq]
  rfl
theorem l2Time_eq (a : Int) : spec_l2Time.f a = some (decide (0 ≤ a ∧ a ≤ 1000000000000)) := by
  unfold spec_l2Time.f
  rw [l1In_eq]
  rfl
theorem toIval_eq (a b : Int) : laws_toIval.f a b = some (a, b) := rfl
theorem FnExactLocalOk (a0_0 : Bool) (a0_1 a0_2 a0_3 : Int) (_h : True ∧ ((Lit.int .i64 a0_1).wf = true ∧ (Lit.int .i64 a0_2).wf = true) ∧ (Lit.int .i64 a0_3).wf = true) :
    laws_FnExactLocalOk.f a0_0 a0_1 a0_2 a0_3 = some true := by
  have e : impl_LocalOk.f a0_0 a0_1 a0_2 a0_3 = spec_LocalOk.f a0_0 a0_1 a0_2 a0_3 := by
    unfold impl_LocalOk.f spec_LocalOk.f
    simp only [iIvalOk_eq, sIvalOk_eq, isTime_eq, l2Time_eq]
  have hs : ∃ b, spec_LocalOk.f a0_0 a0_1 a0_2 a0_3 = some b := by
    unfold spec_LocalOk.f
    simp only [sIvalOk_eq, l2Time_eq, Option.bind_some]
    repeat' split
    all_goals exact ⟨_, rfl⟩
  obtain ⟨b, hb⟩ := hs
  unfold laws_FnExactLocalOk.f laws_toLocal.f
  simp [toIval_eq, e, hb]

end Go.Proofs.Ytlgfabkffnmghaa.Pure
