/- The plain half of FnExactMsgOk: what the printed functions compute, over numbers and lists alone. No condition. -/
import Derived.Test.YtlijhbkmppphmaaXFnExactMsgOkx
import Derived.OpenShut
namespace Go.Proofs.Ytlijhbkmppphmaa.Pure
open Go.RowKit Go.Proofs.Ytlijhbkmppphmaa.XFnExactMsgOk Go.Proofs.YtlijhbkmppphmaaW.PrintWords Go.Proofs.YtlijhbkmppphmaaW.PrintLast Go.Proofs.YtlijhbkmppphmaaW.PrintMore
set_option linter.unusedVariables false
set_option linter.unusedSimpArgs false
theorem wf64 {x : Int} (h : (Lit.int .i64 x).wf = true) : -9223372036854775808 ≤ x ∧ x ≤ 9223372036854775807 := by
  simp [Lit.wf, IntKind.min, IntKind.max, IntKind.signed, IntKind.bits] at h
  omega
theorem w64 {x : Int} (h1 : -9223372036854775808 ≤ x) (h2 : x ≤ 9223372036854775807) : wrap64 x = x := by
  unfold wrap64
  omega
theorem in_eq (a b c : Int) : impl_in.f a b c = some (decide (b ≤ a ∧ a ≤ c)) := by
  unfold impl_in.f
  by_cases h : b ≤ a <;> simp [h]
theorem l1In_eq (a b c : Int) : spec_l1In.f a b c = some (decide (b ≤ a ∧ a ≤ c)) := by
  unfold spec_l1In.f
  by_cases h : b ≤ a <;> simp [h]
theorem iIvalOk_eq (a b : Int) : impl_IvalOk.f a b = some (decide (-1000000000000 ≤ a ∧ a ≤ b ∧ b ≤ 1000000000000)) := by
  unfold impl_IvalOk.f
  by_cases h : -1000000000000 ≤ a <;> by_cases h2 : a ≤ b <;> simp [h, h2]
theorem sIvalOk_eq (a b : Int) : spec_IvalOk.f a b = some (decide (-1000000000000 ≤ a ∧ a ≤ b ∧ b ≤ 1000000000000)) := by
  unfold spec_IvalOk.f
  simp only [l1In_eq, Option.bind_some, decide_eq_true_eq]
  by_cases h : a ≤ b
  · rw [if_pos h]
    by_cases h2 : -1000000000000 ≤ a ∧ a ≤ 1000000000000
    · rw [if_pos h2]
      simp only [Option.some.injEq, decide_eq_decide]
      omega
    · rw [if_neg h2]
      simp only [Option.some.injEq]
      exact (decide_eq_false (by omega)).symm
  · rw [if_neg h]
    simp only [Option.some.injEq]
    exact (decide_eq_false (by omega)).symm
theorem l4Node_eq (a : Int) : spec_l4Node.f a = some (decide (0 ≤ a ∧ a ≤ 7)) := by
  unfold spec_l4Node.f
  rw [l1In_eq]
  rfl
theorem isNode_eq (a : Int) : impl_isNode.f a = some (decide (0 ≤ a ∧ a ≤ 7)) := by
  unfold impl_isNode.f
  rw [in_eq]
  rfl
theorem toMsg_eq (a b c d e f g : Int) (s : ByteArray) : laws_toMsg.f a b c d e f g s = some (a, b, c, d, e, f, g, s) := by
  unfold laws_toMsg.f
  rfl
/-- When a message is one. -/
def msgOk (kind frm tq nonce lo hi slot : Int) (body : ByteArray) : Bool :=
  decide (0 ≤ frm ∧ frm ≤ 7 ∧ ((kind = 3 ∧ 0 ≤ slot ∧ slot ≤ 15 ∧ body.size ≤ 24 ∧ tq = 0 ∧ nonce = 0 ∧ lo = 0 ∧ hi = 0) ∨
    (kind ≠ 3 ∧ 0 ≤ tq ∧ tq ≤ 7 ∧ frm ≠ tq ∧ 0 ≤ nonce ∧ nonce ≤ 100000999 ∧ slot = 0 ∧ body.size = 0 ∧ ((kind = 1 ∧ lo = 0 ∧ hi = 0) ∨ (kind = 2 ∧ -1000000000000 ≤ lo ∧ lo ≤ hi ∧ hi ≤ 1000000000000)))))
theorem empty_iff (s : ByteArray) : s.toList = [] ↔ s.size = 0 := by
  rw [ByteArray.toList_eq, ← List.length_eq_zero_iff]
  rfl
theorem iMsgOk_eq (kind frm tq nonce lo hi slot : Int) (body : ByteArray) : impl_MsgOk.f kind frm tq nonce lo hi slot body = some (msgOk kind frm tq nonce lo hi slot body) := by
  unfold impl_MsgOk.f msgOk
  simp only [isNode_eq, in_eq, iIvalOk_eq, Option.bind_some, decide_eq_true_eq, empty_iff]
  by_cases c1 : 0 ≤ frm ∧ frm ≤ 7
  · rw [if_pos c1]
    by_cases c2 : kind = 3
    · rw [if_pos c2]
      subst c2
      by_cases c3 : 0 ≤ slot ∧ slot ≤ 15
      · rw [if_pos c3]
        by_cases c4 : (body.size : Int) ≤ 24
        · rw [if_pos c4]
          simp only [Option.some.injEq]
          rw [Bool.eq_iff_iff]
          simp
          omega
        · rw [if_neg c4]
          simp only [Option.some.injEq]
          exact (decide_eq_false (by omega)).symm
      · rw [if_neg c3]
        simp only [Option.some.injEq]
        exact (decide_eq_false (by omega)).symm
    · rw [if_neg c2]
      repeat' split
      all_goals (simp only [Option.some.injEq]; try simp only [Bool.and_eq_true, beq_iff_eq] at *)
      all_goals first | exact (decide_eq_false (by omega)).symm | exact (decide_eq_true (by omega)).symm | (rw [decide_eq_decide]; omega)
  · rw [if_neg c1]
    simp only [Option.some.injEq]
    exact (decide_eq_false (by omega)).symm
theorem empty_beq (s : ByteArray) : (s.toList == ([] : List UInt8)) = decide (s.size = 0) := by
  rw [Bool.eq_iff_iff, beq_iff_eq, decide_eq_true_eq]
  exact empty_iff s
theorem j1_eq (b : Bool) (kind frm tq nonce lo hi slot : Int) (body : ByteArray) : spec_MsgOk.j1 1 b kind frm tq nonce lo hi slot body =
    some (decide ((kind = 1 ∧ b = true ∧ lo = 0 ∧ hi = 0) ∨ (kind = 2 ∧ b = true ∧ -1000000000000 ≤ lo ∧ lo ≤ hi ∧ hi ≤ 1000000000000) ∨ (kind = 3 ∧ tq = 0 ∧ nonce = 0 ∧ lo = 0 ∧ hi = 0 ∧ 0 ≤ slot ∧ slot ≤ 15))) := by
  simp only [spec_MsgOk.j1, l1In_eq, sIvalOk_eq, Option.bind_some]
  by_cases k1 : kind = 1
  · subst k1
    cases b
    · simp
    · simp only [if_true, Option.some.injEq]
      rw [Bool.eq_iff_iff]
      simp
  · by_cases k2 : kind = 2
    · subst k2
      cases b
      · simp
      · simp
    · by_cases k3 : kind = 3
      · subst k3
        by_cases c1 : tq = 0
        · by_cases c2 : nonce = 0
          · by_cases c3 : lo = 0
            · by_cases c4 : hi = 0
              · simp [c1, c2, c3, c4]
              · simp [c1, c2, c3, c4]
            · simp [c1, c2, c3]
          · simp [c1, c2]
        · simp [c1]
      · simp [k1, k2, k3]
theorem sMsgOk_eq (kind frm tq nonce lo hi slot : Int) (body : ByteArray) : spec_MsgOk.f 2 kind frm tq nonce lo hi slot body = some (msgOk kind frm tq nonce lo hi slot body) := by
  unfold spec_MsgOk.f msgOk
  simp only [spec_MsgOk.j0, j1_eq, l4Node_eq, l1In_eq, Option.bind_some, decide_eq_true_eq, empty_beq, if_true]
  by_cases c1 : 0 ≤ frm ∧ frm ≤ 7
  · rw [if_pos c1]
    by_cases c2 : (body.size : Int) > 24
    · rw [if_pos c2]
      simp only [Option.some.injEq]
      exact (decide_eq_false (by omega)).symm
    · rw [if_neg c2]
      by_cases c3 : 0 ≤ tq ∧ tq ≤ 7
      · rw [if_pos c3]
        by_cases c4 : tq = frm
        · rw [if_pos c4]
          simp only [Option.some.injEq, decide_eq_decide, Bool.false_eq_true, false_and, and_false, false_or]
          omega
        · rw [if_neg c4]
          by_cases c5 : 0 ≤ nonce ∧ nonce ≤ 100000999
          · rw [if_pos c5]
            by_cases c6 : slot = 0
            · rw [if_pos c6]
              simp only [Option.some.injEq, decide_eq_decide]
              omega
            · rw [if_neg c6]
              simp only [Option.some.injEq, decide_eq_decide, Bool.false_eq_true, false_and, and_false, false_or]
              omega
          · rw [if_neg c5]
            simp only [Option.some.injEq, decide_eq_decide, Bool.false_eq_true, false_and, and_false, false_or]
            omega
      · rw [if_neg c3]
        simp only [Option.some.injEq, decide_eq_decide, Bool.false_eq_true, false_and, and_false, false_or]
        omega
  · rw [if_neg c1]
    simp only [Option.some.injEq]
    exact (decide_eq_false (by omega)).symm
theorem FnExactMsgOk (a0_0 a0_1 a0_2 a0_3 a0_4 a0_5 a0_6 : Int) (a0_7 : ByteArray)
    (h : (Lit.int .i64 a0_0).wf = true ∧ (Lit.int .i64 a0_1).wf = true ∧ (Lit.int .i64 a0_2).wf = true ∧ (Lit.int .i64 a0_3).wf = true ∧ ((Lit.int .i64 a0_4).wf = true ∧ (Lit.int .i64 a0_5).wf = true) ∧ (Lit.int .i64 a0_6).wf = true ∧ a0_7.size ≤ maxLen) :
    ∃ k, laws_FnExactMsgOk.f k a0_0 a0_1 a0_2 a0_3 a0_4 a0_5 a0_6 a0_7 = some true := by
  refine ⟨2, ?_⟩
  unfold laws_FnExactMsgOk.f laws_szMsg.f
  split
  · rfl
  · simp only [Option.bind_some]
    split
    · rfl
    · simp [toMsg_eq, sMsgOk_eq, iMsgOk_eq]

end Go.Proofs.Ytlijhbkmppphmaa.Pure
