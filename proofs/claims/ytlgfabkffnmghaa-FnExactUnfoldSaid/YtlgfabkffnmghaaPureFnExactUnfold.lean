/- The plain half of FnExactUnfold: what the printed functions compute, over numbers and lists alone. No condition. -/
import Derived.Test.YtlgfabkffnmghaaPFnExactUnfoldx
namespace Go.Proofs.Ytlgfabkffnmghaa.Pure
open Go.RowKit Go.Proofs.Ytlgfabkffnmghaa.PFnExactUnfold Go.Proofs.YtlgfabkffnmghaaW.PrintWords Go.Proofs.YtlgfabkffnmghaaW.PrintLast Go.Proofs.YtlgfabkffnmghaaW.PrintMore
set_option linter.unusedVariables false
set_option linter.unusedSimpArgs false
theorem in_eq (a b c : Int) : impl_in.f a b c = some (decide (b ≤ a ∧ a ≤ c)) := by
  unfold impl_in.f
  by_cases h : b ≤ a <;> simp [h]
theorem l1In_eq (a b c : Int) : spec_l1In.f a b c = some (decide (b ≤ a ∧ a ≤ c)) := by
  unfold spec_l1In.f
  by_cases h : b ≤ a <;> simp [h]
theorem FnExactUnfold (a0 : Int) (_h : (Lit.int .i64 a0).wf = true) : laws_FnExactUnfold.f a0 = some true := by
  have e : impl_Unfold.f a0 = spec_Unfold.f a0 := by unfold impl_Unfold.f spec_Unfold.f; simp only [in_eq, l1In_eq]
  have hs : ∃ b, spec_Unfold.f a0 = some b := by
    unfold spec_Unfold.f
    simp only [l1In_eq, Option.bind_some]
    split
    · split <;> exact ⟨_, rfl⟩
    · exact ⟨_, rfl⟩
  obtain ⟨b, hb⟩ := hs
  unfold laws_FnExactUnfold.f
  simp [e, hb]

end Go.Proofs.Ytlgfabkffnmghaa.Pure
