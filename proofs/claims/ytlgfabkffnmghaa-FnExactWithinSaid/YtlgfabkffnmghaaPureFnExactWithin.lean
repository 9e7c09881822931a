/- The plain half of FnExactWithin: what the printed functions compute, over numbers and lists alone. No condition. -/
import Derived.Test.YtlgfabkffnmghaaPFnExactWithinx
namespace Go.Proofs.Ytlgfabkffnmghaa.Pure
open Go.RowKit Go.Proofs.Ytlgfabkffnmghaa.PFnExactWithin Go.Proofs.YtlgfabkffnmghaaW.PrintWords Go.Proofs.YtlgfabkffnmghaaW.PrintLast Go.Proofs.YtlgfabkffnmghaaW.PrintMore
set_option linter.unusedVariables false
set_option linter.unusedSimpArgs false
theorem l1In_eq (a b c : Int) : spec_l1In.f a b c = some (decide (b ≤ a ∧ a ≤ c)) := by
  unfold spec_l1In.f
  by_cases h : b ≤ a <;> simp [h]
theorem iIvalOk_eq (a b : Int) : impl_IvalOk.f a b = some (decide (-1000000000000 ≤ a ∧ a ≤ b ∧ b ≤ 1000000000000)) := by
  unfold impl_IvalOk.f
  by_cases h : -1000000000000 ≤ a <;> by_cases h2 : a ≤ b <;> simp [h, h2]
theorem sIvalOk_eq (a b : Int) : spec_IvalOk.f a b = some (decide (-1000000000000 ≤ a ∧ a ≤ b ∧ b ≤ 1000000000000)) := by
  unfold spec_IvalOk.f
  simp only [l1In_eq, Option.bind_some, decide_eq_true_eq]
  by_cases h : a ≤ b
  · rw [if_pos h]
    by_cases h2 : -1000000000000 ≤ a ∧ a ≤ 1000000000000
    · rw [if_pos h2]
      simp only [Option.some.injEq, decide_eq_decide]
      omega
    · rw [if_neg h2]
      simp only [Option.some.injEq]
      exact (decide_eq_false (by omega)).symm
  · rw [if_neg h]
    simp only [Option.some.injEq]
    exact (decide_eq_false (by omega)).symm
theorem toIval_eq (a b : Int) : laws_toIval.f a b = some (a, b) := rfl
theorem Holds_eq (a b t : Int) : spec_Holds.f a b t = some (decide ((-1000000000000 ≤ a ∧ a ≤ b ∧ b ≤ 1000000000000) ∧ a ≤ t ∧ t ≤ b)) := by
  unfold spec_Holds.f
  simp only [sIvalOk_eq, l1In_eq, Option.bind_some, decide_eq_true_eq]
  by_cases h : -1000000000000 ≤ a ∧ a ≤ b ∧ b ≤ 1000000000000 <;> simp [h]
theorem FnExactWithin (a0_0 a0_1 a1_0 a1_1 : Int) (_h : (Lit.int .i64 a0_0).wf = true ∧ (Lit.int .i64 a0_1).wf = true) (_h1 : (Lit.int .i64 a1_0).wf = true ∧ (Lit.int .i64 a1_1).wf = true) :
    laws_FnExactWithin.f a0_0 a0_1 a1_0 a1_1 = some true := by
  have e : impl_Within.f a0_0 a0_1 a1_0 a1_1 = spec_Within.f a0_0 a0_1 a1_0 a1_1 := by
    unfold impl_Within.f spec_Within.f
    simp only [iIvalOk_eq, sIvalOk_eq, Holds_eq, Option.bind_some, decide_eq_true_eq]
    repeat' split
    all_goals first | rfl | (simp only [Option.some.injEq, decide_eq_decide, decide_eq_true_eq, decide_eq_false_iff_not] ; omega) | (exfalso; omega) | (simp; omega)
  have hs : ∃ b, spec_Within.f a0_0 a0_1 a1_0 a1_1 = some b := by
    unfold spec_Within.f
    simp only [sIvalOk_eq, Holds_eq, Option.bind_some]
    split
    · split <;> exact ⟨_, rfl⟩
    · exact ⟨_, rfl⟩
  obtain ⟨b, hb⟩ := hs
  unfold laws_FnExactWithin.f
  simp [toIval_eq, e, hb]

end Go.Proofs.Ytlgfabkffnmghaa.Pure
