/- The plain half of FnExactFold: what the printed functions compute, over numbers and lists alone. No condition. -/
import Derived.Test.YtlgfabkffnmghaaPFnExactFoldx
namespace Go.Proofs.Ytlgfabkffnmghaa.Pure
open Go.RowKit Go.Proofs.Ytlgfabkffnmghaa.PFnExactFold Go.Proofs.YtlgfabkffnmghaaW.PrintWords Go.Proofs.YtlgfabkffnmghaaW.PrintLast Go.Proofs.YtlgfabkffnmghaaW.PrintMore
set_option linter.unusedVariables false
set_option linter.unusedSimpArgs false
theorem in_eq (a b c : Int) : impl_in.f a b c = some (decide (b ≤ a ∧ a ≤ c)) := by
  unfold impl_in.f
  by_cases h : b ≤ a <;> simp [h]
theorem l1In_eq (a b c : Int) : spec_l1In.f a b c = some (decide (b ≤ a ∧ a ≤ c)) := by
  unfold spec_l1In.f
  by_cases h : b ≤ a <;> simp [h]
theorem FnExactFold (a0 : Int) (_h : (Lit.int .i64 a0).wf = true) : laws_FnExactFold.f a0 = some true := by
  have e : impl_Fold.f a0 = spec_Fold.f a0 := by unfold impl_Fold.f spec_Fold.f; simp only [in_eq, l1In_eq]
  have hs : ∃ b, spec_Fold.f a0 = some b := by
    unfold spec_Fold.f
    simp only [l1In_eq, Option.bind_some]
    split
    · split <;> exact ⟨_, rfl⟩
    · exact ⟨_, rfl⟩
  obtain ⟨b, hb⟩ := hs
  unfold laws_FnExactFold.f
  simp [e, hb]

end Go.Proofs.Ytlgfabkffnmghaa.Pure
