/- The plain half of FnExactCarryOn: what the printed functions compute, over numbers and lists alone. No condition. -/
import Derived.Test.YtimikgeppdgpkaaXFnExactCarryOnx
import Derived.OpenShut
namespace Go.Proofs.Ytimikgeppdgpkaa.Pure
open Go.RowKit Go.Proofs.Ytimikgeppdgpkaa.XFnExactCarryOn Go.Proofs.YtimikgeppdgpkaaW.PrintWords Go.Proofs.YtimikgeppdgpkaaW.PrintLast Go.Proofs.YtimikgeppdgpkaaW.PrintMore
set_option linter.unusedVariables false
set_option linter.unusedSimpArgs false
theorem wf64 {x : Int} (h : (Lit.int .i64 x).wf = true) : -9223372036854775808 ≤ x ∧ x ≤ 9223372036854775807 := by
  simp [Lit.wf, IntKind.min, IntKind.max, IntKind.signed, IntKind.bits] at h
  omega
theorem w64 {x : Int} (h1 : -9223372036854775808 ≤ x) (h2 : x ≤ 9223372036854775807) : wrap64 x = x := by
  unfold wrap64
  omega
theorem in_eq (a b c : Int) : impl_in.f a b c = some (decide (b ≤ a ∧ a ≤ c)) := by
  unfold impl_in.f
  by_cases h : b ≤ a <;> simp [h]
theorem l1In_eq (a b c : Int) : spec_l1In.f a b c = some (decide (b ≤ a ∧ a ≤ c)) := by
  unfold spec_l1In.f
  by_cases h : b ≤ a <;> simp [h]
theorem iIvalOk_eq (a b : Int) : impl_IvalOk.f a b = some (decide (-1000000000000 ≤ a ∧ a ≤ b ∧ b ≤ 1000000000000)) := by
  unfold impl_IvalOk.f
  by_cases h : -1000000000000 ≤ a <;> by_cases h2 : a ≤ b <;> simp [h, h2]
theorem sIvalOk_eq (a b : Int) : spec_IvalOk.f a b = some (decide (-1000000000000 ≤ a ∧ a ≤ b ∧ b ≤ 1000000000000)) := by
  unfold spec_IvalOk.f
  simp only [l1In_eq, Option.bind_some, decide_eq_true_eq]
  by_cases h : a ≤ b
  · rw [if_pos h]
    by_cases h2 : -1000000000000 ≤ a ∧ a ≤ 1000000000000
    · rw [if_pos h2]
      simp only [Option.some.injEq, decide_eq_decide]
      omega
    · rw [if_neg h2]
      simp only [Option.some.injEq]
      exact (decide_eq_false (by omega)).symm
  · rw [if_neg h]
    simp only [Option.some.injEq]
    exact (decide_eq_false (by omega)).symm
theorem iDriftOk_eq (n d : Int) : impl_DriftOk.f n d = some (decide (1 ≤ d ∧ d ≤ 1000000 ∧ 0 ≤ n ∧ 2 * n ≤ d)) := by
  unfold impl_DriftOk.f
  simp only [in_eq, Option.bind_some, decide_eq_true_eq]
  by_cases h : 1 ≤ d ∧ d ≤ 1000000
  · rw [if_pos h]
    by_cases h2 : 0 ≤ n ∧ n ≤ d
    · rw [if_pos h2, w64 (by omega) (by omega)]
      simp only [Option.some.injEq, decide_eq_decide]
      omega
    · rw [if_neg h2]
      simp only [Option.some.injEq]
      exact (decide_eq_false (by omega)).symm
  · rw [if_neg h]
    simp only [Option.some.injEq]
    exact (decide_eq_false (by omega)).symm
theorem sDriftOk_eq (n d : Int) : spec_DriftOk.f n d = some (decide (1 ≤ d ∧ d ≤ 1000000 ∧ 0 ≤ n ∧ 2 * n ≤ d)) := by
  unfold spec_DriftOk.f
  simp only [l1In_eq, Option.bind_some, decide_eq_true_eq]
  by_cases h : 1 ≤ d ∧ d ≤ 1000000
  · rw [if_pos h]
    by_cases h2 : 0 ≤ n ∧ n ≤ d
    · rw [if_pos h2, w64 (by omega) (by omega)]
      simp only [Option.some.injEq, decide_eq_decide]
      omega
    · rw [if_neg h2]
      simp only [Option.some.injEq]
      exact (decide_eq_false (by omega)).symm
  · rw [if_neg h]
    simp only [Option.some.injEq]
    exact (decide_eq_false (by omega)).symm
theorem isTime_eq (a : Int) : impl_isTime.f a = some (decide (0 ≤ a ∧ a ≤ 1000000000000)) := by
  unfold impl_isTime.f
  rw [in_eq]
  rfl
theorem l2Time_eq (a : Int) : spec_l2Time.f a = some (decide (0 ≤ a ∧ a ≤ 1000000000000)) := by
  unfold spec_l2Time.f
  rw [l1In_eq]
  rfl
theorem toIval_eq (a b : Int) : laws_toIval.f a b = some (a, b) := rfl
theorem toDrift_eq (a b : Int) : laws_toDrift.f a b = some (a, b) := rfl
theorem eqIval_self (a b : Int) : laws_eqIval.f a b a b = some true := by
  unfold laws_eqIval.f
  simp
theorem told_eq (a b : Int) : spec_l1Told.f a b = some (if -1000000000000 ≤ a ∧ a ≤ b ∧ b ≤ 1000000000000 then (a, b, true) else (0, 0, false)) := by
  unfold spec_l1Told.f
  simp only [sIvalOk_eq, Option.bind_some, decide_eq_true_eq]
  split <;> rfl
theorem ival_eq (a b : Int) : impl_ival.f a b = some (if -1000000000000 ≤ a ∧ a ≤ b ∧ b ≤ 1000000000000 then (a, b, true) else (0, 0, false)) := by
  unfold impl_ival.f
  simp only [iIvalOk_eq, Option.bind_some, decide_eq_true_eq]
  split <;> rfl
theorem fl_unique {a b q : Int} (hb : 0 < b) (h1 : q * b ≤ a) (h2 : a < (q + 1) * b) : a / b = q := by
  have e1 := (Int.le_ediv_iff_mul_le hb).2 h1
  have e2 := (Int.ediv_lt_iff_lt_mul hb).2 h2
  omega
theorem mul_bd {c d A B : Int} (h0 : 0 ≤ c) (h1 : c ≤ A) (h2 : 0 ≤ d) (h3 : d ≤ B) : 0 ≤ c * d ∧ c * d ≤ A * B := ⟨Int.mul_nonneg h0 h2, Int.mul_le_mul h1 h3 h2 (by omega)⟩
theorem ediv_bd {a b : Int} (h : 0 ≤ a) (hb : 0 < b) : 0 ≤ a / b ∧ a / b ≤ a := ⟨Int.ediv_nonneg h (by omega), Int.ediv_le_self b h⟩
theorem downv (a b : Int) (hb : 0 < b) (h0 : -4000000000000000000 ≤ a) (h1 : a ≤ 4000000000000000000) : spec_l1Down.f a b = some (a / b) := by
  unfold spec_l1Down.f
  rw [if_neg (by omega)]
  rcases Int.le_total 0 a with h | h
  · have hm : 0 ≤ Int.tmod a b := by
      rw [Int.tmod_eq_emod_of_nonneg h]
      exact Int.emod_nonneg _ (by omega)
    obtain ⟨q0, q1⟩ := ediv_bd h hb
    rw [if_neg (by omega), Int.tdiv_eq_ediv_of_nonneg h, w64 (by omega) (by omega)]
  · obtain ⟨m, rfl⟩ : ∃ m, a = -m := ⟨-a, by omega⟩
    have hm : 0 ≤ m := by omega
    have e1 := Int.emod_nonneg m (show b ≠ 0 by omega)
    have e2 := Int.emod_lt_of_pos m hb
    have e3 := Int.emod_add_mul_ediv m b
    obtain ⟨q0, q1⟩ := ediv_bd hm hb
    rw [Int.neg_tmod, Int.neg_tdiv, Int.tmod_eq_emod_of_nonneg hm, Int.tdiv_eq_ediv_of_nonneg hm]
    generalize m / b = q at *
    generalize m % b = r at *
    have e4 : q * b = b * q := Int.mul_comm _ _
    by_cases c : -r < 0
    · rw [if_pos c, w64 (x := -q) (by omega) (by omega), w64 (by omega) (by omega)]
      congr 1
      symm
      apply fl_unique hb
      · rw [Int.sub_mul, Int.neg_mul, Int.one_mul]
        omega
      · rw [show -q - 1 + 1 = -q by omega, Int.neg_mul]
        omega
    · rw [if_neg c, w64 (by omega) (by omega)]
      congr 1
      symm
      apply fl_unique hb
      · rw [Int.neg_mul]
        omega
      · rw [Int.add_mul, Int.neg_mul, Int.one_mul]
        omega
theorem upv (a b : Int) (hb : 0 < b) (h0 : 0 ≤ a) (h1 : a ≤ 4000000000000000000) : spec_l1Up.f a b = some (-((-a) / b)) := by
  unfold spec_l1Up.f
  rw [w64 (x := -a) (by omega) (by omega), downv _ _ hb (by omega) (by omega)]
  have e0 : -a ≤ -a / b := (Int.le_ediv_iff_mul_le hb).2 (by
    have : -a * b ≤ -a * 1 := Int.mul_le_mul_of_nonpos_left (by omega) (by omega)
    omega)
  have e1 : -a / b < 1 := (Int.ediv_lt_iff_lt_mul hb).2 (by omega)
  simp only [Option.bind_some]
  rw [w64 (by omega) (by omega)]
/-- What may be counted: the bounds. -/
def dOk (n d : Int) : Bool := decide (1 ≤ d ∧ d ≤ 1000000 ∧ 0 ≤ n ∧ 2 * n ≤ d)
def tOk (t : Int) : Bool := decide (0 ≤ t ∧ t ≤ 1000000000000)
def leastT (n d c : Int) : Int := -((-(c * d)) / (d + n))
def mostT (n d c : Int) : Int := c * d / (d - n)
def leastC (n d t : Int) : Int := -((-(t * (d - n))) / d)
def mostC (n d t : Int) : Int := t * (d + n) / d
def tld (b : Bool) (v : Int) : Int × Bool := if b = true ∧ v ≤ 1000000000000 then (v, true) else (0, false)
theorem dOk_iff {n d : Int} : dOk n d = true ↔ 1 ≤ d ∧ d ≤ 1000000 ∧ 0 ≤ n ∧ 2 * n ≤ d := by unfold dOk; exact decide_eq_true_iff
theorem tOk_iff {t : Int} : tOk t = true ↔ 0 ≤ t ∧ t ≤ 1000000000000 := by unfold tOk; exact decide_eq_true_iff
theorem l2Told_eq (v : Int) : spec_l2Told.f v = some (tld true v) := by
  unfold spec_l2Told.f tld
  by_cases c : v > 1000000000000
  · rw [if_pos c, if_neg (by omega)]
  · rw [if_neg c, if_pos ⟨rfl, by omega⟩]
theorem idown_eq (a b : Int) : impl_down.f a b = spec_l1Down.f a b := rfl
theorem iup_eq (a b : Int) : impl_up.f a b = spec_l1Up.f a b := by
  unfold impl_up.f spec_l1Up.f
  simp only [idown_eq]
theorem iLeastTime_eq (n d c : Int) : impl_LeastTime.f n d c = some (tld (dOk n d && tOk c) (leastT n d c)) := by
  unfold impl_LeastTime.f impl_LeastTime_1.f
  simp only [iDriftOk_eq, isTime_eq, Option.bind_some, iup_eq]
  change (if dOk n d = true then (if tOk c = true then _ else _) else _) = _
  by_cases c1 : dOk n d = true
  · rw [if_pos c1]
    by_cases c2 : tOk c = true
    · rw [if_pos c2]
      have h1 := dOk_iff.1 c1
      have h2 := tOk_iff.1 c2
      have h3 := mul_bd h2.1 h2.2 (show 0 ≤ d by omega) h1.2.1
      rw [w64 (x := c * d) (by omega) (by omega), w64 (x := d + n) (by omega) (by omega), upv _ _ (by omega) h3.1 (by omega), c1, c2]
      simp only [Option.bind_some, Bool.and_self, tld, leastT, true_and]
      split <;> rfl
    · rw [if_neg c2]
      simp [tld, c2]
  · rw [if_neg c1]
    simp [tld, c1]
theorem iMostTime_eq (n d c : Int) : impl_MostTime.f n d c = some (tld (dOk n d && tOk c) (mostT n d c)) := by
  unfold impl_MostTime.f impl_MostTime_1.f
  simp only [iDriftOk_eq, isTime_eq, Option.bind_some]
  change (if dOk n d = true then (if tOk c = true then _ else _) else _) = _
  by_cases c1 : dOk n d = true
  · rw [if_pos c1]
    by_cases c2 : tOk c = true
    · rw [if_pos c2]
      have h1 := dOk_iff.1 c1
      have h2 := tOk_iff.1 c2
      have h3 := mul_bd h2.1 h2.2 (show 0 ≤ d by omega) h1.2.1
      have h4 := ediv_bd h3.1 (show 0 < d - n by omega)
      rw [w64 (x := c * d) (by omega) (by omega), w64 (x := d - n) (by omega) (by omega), if_neg (by omega), Int.tdiv_eq_ediv_of_nonneg h3.1, w64 (by omega) (by omega), c1, c2]
      simp only [Option.bind_some, Bool.and_self, tld, mostT, true_and]
      split <;> rfl
    · rw [if_neg c2]
      simp [tld, c2]
  · rw [if_neg c1]
    simp [tld, c1]
theorem sLeastTime_eq (k : Nat) (n d c : Int) : spec_LeastTime.f (k + 1) n d c = some (tld (dOk n d && tOk c) (leastT n d c)) := by
  unfold spec_LeastTime.f
  simp only [sDriftOk_eq, l2Time_eq, Option.bind_some, spec_LeastTime.j0, if_true]
  change (if dOk n d = true then (if (!tOk c) = true then _ else _) else _) = _
  by_cases c1 : dOk n d = true
  · rw [if_pos c1]
    by_cases c2 : tOk c = true
    · rw [if_neg (by simp [c2])]
      have h1 := dOk_iff.1 c1
      have h2 := tOk_iff.1 c2
      have h3 := mul_bd h2.1 h2.2 (show 0 ≤ d by omega) h1.2.1
      rw [w64 (x := c * d) (by omega) (by omega), w64 (x := d + n) (by omega) (by omega), upv _ _ (by omega) h3.1 (by omega), c1, c2]
      simp only [Option.bind_some, l2Told_eq]
      rfl
    · rw [if_pos (by simp [c2])]
      simp [tld, c2]
  · rw [if_neg c1]
    simp [tld, c1]
theorem sMostTime_eq (k : Nat) (n d c : Int) : spec_MostTime.f (k + 1) n d c = some (tld (dOk n d && tOk c) (mostT n d c)) := by
  unfold spec_MostTime.f
  simp only [sDriftOk_eq, l2Time_eq, Option.bind_some, spec_MostTime.j0, if_true]
  change (if dOk n d = true then (if (!tOk c) = true then _ else _) else _) = _
  by_cases c1 : dOk n d = true
  · rw [if_pos c1]
    by_cases c2 : tOk c = true
    · rw [if_neg (by simp [c2])]
      have h1 := dOk_iff.1 c1
      have h2 := tOk_iff.1 c2
      have h3 := mul_bd h2.1 h2.2 (show 0 ≤ d by omega) h1.2.1
      rw [w64 (x := c * d) (by omega) (by omega), w64 (x := d - n) (by omega) (by omega), downv _ _ (by omega) (by omega) (by omega), c1, c2]
      simp only [Option.bind_some, l2Told_eq]
      rfl
    · rw [if_pos (by simp [c2])]
      simp [tld, c2]
  · rw [if_neg c1]
    simp [tld, c1]
/-- The times of a count. -/
def btw (n d c : Int) : Int × Int × Bool := if (tld (dOk n d && tOk c) (leastT n d c)).2 = true then (if (tld (dOk n d && tOk c) (mostT n d c)).2 = true then ((tld (dOk n d && tOk c) (leastT n d c)).1, (tld (dOk n d && tOk c) (mostT n d c)).1, true) else (0, 0, false)) else (0, 0, false)
theorem iBetween_eq (n d c : Int) : impl_Between.f n d c = some (btw n d c) := by
  unfold impl_Between.f impl_both_27_23.f btw
  simp only [iLeastTime_eq, iMostTime_eq, Option.bind_some]
  split
  · split <;> rfl
  · rfl
theorem sBetween_eq (k : Nat) (n d c : Int) : spec_Between.f (k + 1) n d c = some (btw n d c) := by
  unfold spec_Between.f btw
  simp only [sLeastTime_eq, sMostTime_eq, Option.bind_some]
  split
  · split <;> rfl
  · rfl
theorem localOk_eq (b : Bool) (x y z : Int) : impl_LocalOk.f b x y z = spec_LocalOk.f b x y z := by
  unfold impl_LocalOk.f spec_LocalOk.f
  simp only [iIvalOk_eq, sIvalOk_eq, isTime_eq, l2Time_eq]
theorem localOk_tot (b : Bool) (x y z : Int) : ∃ v, spec_LocalOk.f b x y z = some v := by
  unfold spec_LocalOk.f
  simp only [sIvalOk_eq, l2Time_eq, Option.bind_some]
  repeat' split
  all_goals exact ⟨_, rfl⟩
theorem plusIval_eq (a b c d : Int) : ∃ v, impl_PlusIval.f a b c d = some v ∧ spec_PlusIval.f a b c d = some v := by
  unfold impl_PlusIval.f spec_PlusIval.f
  simp only [iIvalOk_eq, sIvalOk_eq, told_eq, ival_eq, Option.bind_some]
  split
  · split <;> exact ⟨_, rfl, rfl⟩
  · exact ⟨_, rfl, rfl⟩

theorem FnExactCarryOn (a0_0 : Bool) (a0_1 a0_2 a0_3 a1_0 a1_1 a2 : Int) (_h : True ∧ ((Lit.int .i64 a0_1).wf = true ∧ (Lit.int .i64 a0_2).wf = true) ∧ (Lit.int .i64 a0_3).wf = true) (_h1 : (Lit.int .i64 a1_0).wf = true ∧ (Lit.int .i64 a1_1).wf = true) (_h2 : (Lit.int .i64 a2).wf = true) :
    ∃ k, laws_FnExactCarryOn.f k a0_0 a0_1 a0_2 a0_3 a1_0 a1_1 a2 = some true := by
  have hj : ∀ b, ∃ v, impl_CarryOn.j0 2 a2 b a0_0 a0_1 a0_2 a0_3 a1_0 a1_1 = some v ∧ spec_CarryOn.j0 2 a2 b a0_0 a0_1 a0_2 a0_3 a1_0 a1_1 = some v := by
    intro b
    simp only [impl_CarryOn.j0, spec_CarryOn.j0, iBetween_eq, sBetween_eq, Option.bind_some]
    obtain ⟨v, e1, e2⟩ := plusIval_eq a0_1 a0_2 (btw a1_0 a1_1 (wrap64 (a2 - a0_3))).1 (btw a1_0 a1_1 (wrap64 (a2 - a0_3))).2.1
    rw [e1, e2]
    simp only [Option.bind_some]
    repeat' split
    all_goals exact ⟨_, rfl, rfl⟩
  have hv : ∃ v, impl_CarryOn.f 2 a0_0 a0_1 a0_2 a0_3 a1_0 a1_1 a2 = some v ∧ spec_CarryOn.f 2 a0_0 a0_1 a0_2 a0_3 a1_0 a1_1 a2 = some v := by
    unfold impl_CarryOn.f spec_CarryOn.f
    obtain ⟨l, hl⟩ := localOk_tot a0_0 a0_1 a0_2 a0_3
    simp only [localOk_eq, hl, iDriftOk_eq, sDriftOk_eq, isTime_eq, l2Time_eq, Option.bind_some]
    split
    · split <;> exact hj _
    · exact hj _
  obtain ⟨v, hi, hs⟩ := hv
  refine ⟨2, ?_⟩
  unfold laws_FnExactCarryOn.f laws_toLocal.f
  simp [toDrift_eq, toIval_eq, hi, hs, eqIval_self]

end Go.Proofs.Ytimikgeppdgpkaa.Pure
