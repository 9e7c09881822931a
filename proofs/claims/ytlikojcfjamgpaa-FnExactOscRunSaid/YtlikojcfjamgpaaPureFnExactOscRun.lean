/- The plain half of FnExactOscRun: what the printed functions compute, over numbers and lists alone. No condition. -/
import Derived.Test.YtlikojcfjamgpaaXFnExactOscRunx
import Derived.OpenShut
namespace Go.Proofs.Ytlikojcfjamgpaa.Pure
open Go.RowKit Go.Proofs.Ytlikojcfjamgpaa.XFnExactOscRun Go.Proofs.YtlikojcfjamgpaaW.PrintWords Go.Proofs.YtlikojcfjamgpaaW.PrintLast Go.Proofs.YtlikojcfjamgpaaW.PrintMore
set_option linter.unusedVariables false
set_option linter.unusedSimpArgs false
theorem wf64 {x : Int} (h : (Lit.int .i64 x).wf = true) : -9223372036854775808 ≤ x ∧ x ≤ 9223372036854775807 := by
  simp [Lit.wf, IntKind.min, IntKind.max, IntKind.signed, IntKind.bits] at h
  omega
theorem w64 {x : Int} (h1 : -9223372036854775808 ≤ x) (h2 : x ≤ 9223372036854775807) : wrap64 x = x := by
  unfold wrap64
  omega
theorem in_eq (a b c : Int) : impl_in.f a b c = some (decide (b ≤ a ∧ a ≤ c)) := by
  unfold impl_in.f
  by_cases h : b ≤ a <;> simp [h]
theorem l1In_eq (a b c : Int) : spec_l1In.f a b c = some (decide (b ≤ a ∧ a ≤ c)) := by
  unfold spec_l1In.f
  by_cases h : b ≤ a <;> simp [h]
theorem iIvalOk_eq (a b : Int) : impl_IvalOk.f a b = some (decide (-1000000000000 ≤ a ∧ a ≤ b ∧ b ≤ 1000000000000)) := by
  unfold impl_IvalOk.f
  by_cases h : -1000000000000 ≤ a <;> by_cases h2 : a ≤ b <;> simp [h, h2]
theorem iDriftOk_eq (n d : Int) : impl_DriftOk.f n d = some (decide (1 ≤ d ∧ d ≤ 1000000 ∧ 0 ≤ n ∧ 2 * n ≤ d)) := by
  unfold impl_DriftOk.f
  simp only [in_eq, Option.bind_some, decide_eq_true_eq]
  by_cases h : 1 ≤ d ∧ d ≤ 1000000
  · rw [if_pos h]
    by_cases h2 : 0 ≤ n ∧ n ≤ d
    · rw [if_pos h2, w64 (by omega) (by omega)]
      simp only [Option.some.injEq, decide_eq_decide]
      omega
    · rw [if_neg h2]
      simp only [Option.some.injEq]
      exact (decide_eq_false (by omega)).symm
  · rw [if_neg h]
    simp only [Option.some.injEq]
    exact (decide_eq_false (by omega)).symm
theorem sDriftOk_eq (n d : Int) : spec_DriftOk.f n d = some (decide (1 ≤ d ∧ d ≤ 1000000 ∧ 0 ≤ n ∧ 2 * n ≤ d)) := by
  unfold spec_DriftOk.f
  simp only [l1In_eq, Option.bind_some, decide_eq_true_eq]
  by_cases h : 1 ≤ d ∧ d ≤ 1000000
  · rw [if_pos h]
    by_cases h2 : 0 ≤ n ∧ n ≤ d
    · rw [if_pos h2, w64 (by omega) (by omega)]
      simp only [Option.some.injEq, decide_eq_decide]
      omega
    · rw [if_neg h2]
      simp only [Option.some.injEq]
      exact (decide_eq_false (by omega)).symm
  · rw [if_neg h]
    simp only [Option.some.injEq]
    exact (decide_eq_false (by omega)).symm
theorem isTime_eq (a : Int) : impl_isTime.f a = some (decide (0 ≤ a ∧ a ≤ 1000000000000)) := by
  unfold impl_isTime.f
  rw [in_eq]
  rfl
theorem l2Time_eq (a : Int) : spec_l2Time.f a = some (decide (0 ≤ a ∧ a ≤ 1000000000000)) := by
  unfold spec_l2Time.f
  rw [l1In_eq]
  rfl
theorem toDrift_eq (a b : Int) : laws_toDrift.f a b = some (a, b) := rfl
theorem l1Max_eq (a b : Int) : spec_l1Max.f a b = some (mx a b) := by
  unfold spec_l1Max.f mx
  by_cases h : a > b
  · rw [if_pos h, if_neg (by omega)]
  · rw [if_neg h]
    by_cases h2 : a < b
    · rw [if_pos h2]
    · rw [if_neg h2]
      have : a = b := by omega
      rw [this]
theorem l1Min_eq (a b : Int) : spec_l1Min.f a b = some (mn a b) := by
  unfold spec_l1Min.f mn
  by_cases h : a < b
  · rw [if_pos h, if_neg (by omega)]
  · rw [if_neg h]
    by_cases h2 : b < a
    · rw [if_pos h2]
    · rw [if_neg h2]
      have : a = b := by omega
      rw [this]
theorem fl_unique {a b q : Int} (hb : 0 < b) (h1 : q * b ≤ a) (h2 : a < (q + 1) * b) : a / b = q := by
  have e1 := (Int.le_ediv_iff_mul_le hb).2 h1
  have e2 := (Int.ediv_lt_iff_lt_mul hb).2 h2
  omega
theorem mul_bd {c d A B : Int} (h0 : 0 ≤ c) (h1 : c ≤ A) (h2 : 0 ≤ d) (h3 : d ≤ B) : 0 ≤ c * d ∧ c * d ≤ A * B := ⟨Int.mul_nonneg h0 h2, Int.mul_le_mul h1 h3 h2 (by omega)⟩
theorem ediv_bd {a b : Int} (h : 0 ≤ a) (hb : 0 < b) : 0 ≤ a / b ∧ a / b ≤ a := ⟨Int.ediv_nonneg h (by omega), Int.ediv_le_self b h⟩
theorem downv (a b : Int) (hb : 0 < b) (h0 : -4000000000000000000 ≤ a) (h1 : a ≤ 4000000000000000000) : spec_l1Down.f a b = some (a / b) := by
  unfold spec_l1Down.f
  rw [if_neg (by omega)]
  rcases Int.le_total 0 a with h | h
  · have hm : 0 ≤ Int.tmod a b := by
      rw [Int.tmod_eq_emod_of_nonneg h]
      exact Int.emod_nonneg _ (by omega)
    obtain ⟨q0, q1⟩ := ediv_bd h hb
    rw [if_neg (by omega), Int.tdiv_eq_ediv_of_nonneg h, w64 (by omega) (by omega)]
  · obtain ⟨m, rfl⟩ : ∃ m, a = -m := ⟨-a, by omega⟩
    have hm : 0 ≤ m := by omega
    have e1 := Int.emod_nonneg m (show b ≠ 0 by omega)
    have e2 := Int.emod_lt_of_pos m hb
    have e3 := Int.emod_add_mul_ediv m b
    obtain ⟨q0, q1⟩ := ediv_bd hm hb
    rw [Int.neg_tmod, Int.neg_tdiv, Int.tmod_eq_emod_of_nonneg hm, Int.tdiv_eq_ediv_of_nonneg hm]
    generalize m / b = q at *
    generalize m % b = r at *
    have e4 : q * b = b * q := Int.mul_comm _ _
    by_cases c : -r < 0
    · rw [if_pos c, w64 (x := -q) (by omega) (by omega), w64 (by omega) (by omega)]
      congr 1
      symm
      apply fl_unique hb
      · rw [Int.sub_mul, Int.neg_mul, Int.one_mul]
        omega
      · rw [show -q - 1 + 1 = -q by omega, Int.neg_mul]
        omega
    · rw [if_neg c, w64 (by omega) (by omega)]
      congr 1
      symm
      apply fl_unique hb
      · rw [Int.neg_mul]
        omega
      · rw [Int.add_mul, Int.neg_mul, Int.one_mul]
        omega
theorem upv (a b : Int) (hb : 0 < b) (h0 : 0 ≤ a) (h1 : a ≤ 4000000000000000000) : spec_l1Up.f a b = some (-((-a) / b)) := by
  unfold spec_l1Up.f
  rw [w64 (x := -a) (by omega) (by omega), downv _ _ hb (by omega) (by omega)]
  have e0 : -a ≤ -a / b := (Int.le_ediv_iff_mul_le hb).2 (by
    have : -a * b ≤ -a * 1 := Int.mul_le_mul_of_nonpos_left (by omega) (by omega)
    omega)
  have e1 : -a / b < 1 := (Int.ediv_lt_iff_lt_mul hb).2 (by omega)
  simp only [Option.bind_some]
  rw [w64 (by omega) (by omega)]
/-- What may be counted: the bounds. -/
def dOk (n d : Int) : Bool := decide (1 ≤ d ∧ d ≤ 1000000 ∧ 0 ≤ n ∧ 2 * n ≤ d)
def tOk (t : Int) : Bool := decide (0 ≤ t ∧ t ≤ 1000000000000)
def leastT (n d c : Int) : Int := -((-(c * d)) / (d + n))
def mostT (n d c : Int) : Int := c * d / (d - n)
def leastC (n d t : Int) : Int := -((-(t * (d - n))) / d)
def mostC (n d t : Int) : Int := t * (d + n) / d
def tld (b : Bool) (v : Int) : Int × Bool := if b = true ∧ v ≤ 1000000000000 then (v, true) else (0, false)
theorem dOk_iff {n d : Int} : dOk n d = true ↔ 1 ≤ d ∧ d ≤ 1000000 ∧ 0 ≤ n ∧ 2 * n ≤ d := by unfold dOk; exact decide_eq_true_iff
theorem tOk_iff {t : Int} : tOk t = true ↔ 0 ≤ t ∧ t ≤ 1000000000000 := by unfold tOk; exact decide_eq_true_iff
theorem l2Told_eq (v : Int) : spec_l2Told.f v = some (tld true v) := by
  unfold spec_l2Told.f tld
  by_cases c : v > 1000000000000
  · rw [if_pos c, if_neg (by omega)]
  · rw [if_neg c, if_pos ⟨rfl, by omega⟩]
theorem idown_eq (a b : Int) : impl_down.f a b = spec_l1Down.f a b := rfl
theorem iup_eq (a b : Int) : impl_up.f a b = spec_l1Up.f a b := by
  unfold impl_up.f spec_l1Up.f
  simp only [idown_eq]
theorem iLeastCount_eq (n d c : Int) : impl_LeastCount.f n d c = some (tld (dOk n d && tOk c) (leastC n d c)) := by
  unfold impl_LeastCount.f impl_LeastCount_1.f
  simp only [iDriftOk_eq, isTime_eq, Option.bind_some, iup_eq]
  change (if dOk n d = true then (if tOk c = true then _ else _) else _) = _
  by_cases c1 : dOk n d = true
  · rw [if_pos c1]
    by_cases c2 : tOk c = true
    · rw [if_pos c2]
      have h1 := dOk_iff.1 c1
      have h2 := tOk_iff.1 c2
      have h3 := mul_bd h2.1 h2.2 (show 0 ≤ d - n by omega) (show d - n ≤ 1000000 by omega)
      rw [w64 (x := d - n) (by omega) (by omega), w64 (x := c * (d - n)) (by omega) (by omega), upv _ _ (by omega) h3.1 (by omega), c1, c2]
      simp only [Option.bind_some, Bool.and_self, tld, leastC, true_and]
      split <;> rfl
    · rw [if_neg c2]
      simp [tld, c2]
  · rw [if_neg c1]
    simp [tld, c1]
theorem iMostCount_eq (n d c : Int) : impl_MostCount.f n d c = some (tld (dOk n d && tOk c) (mostC n d c)) := by
  unfold impl_MostCount.f impl_MostCount_1.f
  simp only [iDriftOk_eq, isTime_eq, Option.bind_some]
  change (if dOk n d = true then (if tOk c = true then _ else _) else _) = _
  by_cases c1 : dOk n d = true
  · rw [if_pos c1]
    by_cases c2 : tOk c = true
    · rw [if_pos c2]
      have h1 := dOk_iff.1 c1
      have h2 := tOk_iff.1 c2
      have h3 := mul_bd h2.1 h2.2 (show 0 ≤ d + n by omega) (show d + n ≤ 2000000 by omega)
      have h4 := ediv_bd h3.1 (show 0 < d by omega)
      rw [w64 (x := d + n) (by omega) (by omega), w64 (x := c * (d + n)) (by omega) (by omega), if_neg (by omega), Int.tdiv_eq_ediv_of_nonneg h3.1, w64 (by omega) (by omega), c1, c2]
      simp only [Option.bind_some, Bool.and_self, tld, mostC, true_and]
      split <;> rfl
    · rw [if_neg c2]
      simp [tld, c2]
  · rw [if_neg c1]
    simp [tld, c1]
theorem sLeastCount_eq (k : Nat) (n d c : Int) : spec_LeastCount.f (k + 1) n d c = some (tld (dOk n d && tOk c) (leastC n d c)) := by
  unfold spec_LeastCount.f
  simp only [sDriftOk_eq, l2Time_eq, Option.bind_some, spec_LeastCount.j0, if_true]
  change (if dOk n d = true then (if (!tOk c) = true then _ else _) else _) = _
  by_cases c1 : dOk n d = true
  · rw [if_pos c1]
    by_cases c2 : tOk c = true
    · rw [if_neg (by simp [c2])]
      have h1 := dOk_iff.1 c1
      have h2 := tOk_iff.1 c2
      have h3 := mul_bd h2.1 h2.2 (show 0 ≤ d - n by omega) (show d - n ≤ 1000000 by omega)
      rw [w64 (x := d - n) (by omega) (by omega), w64 (x := c * (d - n)) (by omega) (by omega), upv _ _ (by omega) h3.1 (by omega), c1, c2]
      simp only [Option.bind_some, l2Told_eq]
      rfl
    · rw [if_pos (by simp [c2])]
      simp [tld, c2]
  · rw [if_neg c1]
    simp [tld, c1]
theorem sMostCount_eq (k : Nat) (n d c : Int) : spec_MostCount.f (k + 1) n d c = some (tld (dOk n d && tOk c) (mostC n d c)) := by
  unfold spec_MostCount.f
  simp only [sDriftOk_eq, l2Time_eq, Option.bind_some, spec_MostCount.j0, if_true]
  change (if dOk n d = true then (if (!tOk c) = true then _ else _) else _) = _
  by_cases c1 : dOk n d = true
  · rw [if_pos c1]
    by_cases c2 : tOk c = true
    · rw [if_neg (by simp [c2])]
      have h1 := dOk_iff.1 c1
      have h2 := tOk_iff.1 c2
      have h3 := mul_bd h2.1 h2.2 (show 0 ≤ d + n by omega) (show d + n ≤ 2000000 by omega)
      rw [w64 (x := d + n) (by omega) (by omega), w64 (x := c * (d + n)) (by omega) (by omega), downv _ _ (by omega) (by omega) (by omega), c1, c2]
      simp only [Option.bind_some, l2Told_eq]
      rfl
    · rw [if_pos (by simp [c2])]
      simp [tld, c2]
  · rw [if_neg c1]
    simp [tld, c1]

/-- The counts of a time. -/
def cts (n d t : Int) : Int × Int × Bool := if (tld (dOk n d && tOk t) (leastC n d t)).2 = true then (if (tld (dOk n d && tOk t) (mostC n d t)).2 = true then ((tld (dOk n d && tOk t) (leastC n d t)).1, (tld (dOk n d && tOk t) (mostC n d t)).1, true) else (0, 0, false)) else (0, 0, false)
theorem icounts_eq (n d t : Int) : impl_counts.f n d t = some (cts n d t) := by
  unfold impl_counts.f impl_both_90_91.f cts
  simp only [iLeastCount_eq, iMostCount_eq, Option.bind_some]
  split
  · split <;> rfl
  · rfl
theorem leastT_bd {n d c : Int} (h1 : dOk n d = true) (h2 : tOk c = true) : 0 ≤ leastT n d c ∧ leastT n d c ≤ c := by
  have g1 := dOk_iff.1 h1
  have g2 := tOk_iff.1 h2
  unfold leastT
  have hp := Int.mul_nonneg g2.1 (show 0 ≤ d by omega)
  have hq := Int.mul_nonneg g2.1 g1.2.2.1
  have e0 : -c ≤ -(c * d) / (d + n) := (Int.le_ediv_iff_mul_le (by omega)).2 (by rw [Int.neg_mul, Int.mul_add]; omega)
  have e1 : -(c * d) / (d + n) < 1 := (Int.ediv_lt_iff_lt_mul (by omega)).2 (by omega)
  omega
theorem mostT_bd {n d c : Int} (h1 : dOk n d = true) (h2 : tOk c = true) : c ≤ mostT n d c ∧ mostT n d c ≤ 2 * c := by
  have g1 := dOk_iff.1 h1
  have g2 := tOk_iff.1 h2
  unfold mostT
  have hq := Int.mul_nonneg g2.1 g1.2.2.1
  have hr := Int.mul_nonneg g2.1 (show 0 ≤ d - 2 * n by omega)
  have e0 : c ≤ c * d / (d - n) := (Int.le_ediv_iff_mul_le (by omega)).2 (by rw [Int.mul_sub]; omega)
  have e1 : c * d / (d - n) < 2 * c + 1 := (Int.ediv_lt_iff_lt_mul (by omega)).2 (by
    have e : (2 * c + 1) * (d - n) = c * (d - 2 * n) + c * d + (d - n) := by
      have e5 : c * (2 * n) = 2 * (c * n) := Int.mul_left_comm c 2 n
      rw [Int.add_mul, Int.one_mul, Int.mul_assoc, Int.mul_sub c d n, Int.mul_sub c d (2 * n), e5]
      omega
    rw [e]
    omega)
  omega
theorem leastC_bd {n d t : Int} (h1 : dOk n d = true) (h2 : tOk t = true) : 0 ≤ leastC n d t ∧ leastC n d t ≤ t := by
  have g1 := dOk_iff.1 h1
  have g2 := tOk_iff.1 h2
  unfold leastC
  have hp := Int.mul_nonneg g2.1 (show 0 ≤ d - n by omega)
  have hq := Int.mul_nonneg g2.1 g1.2.2.1
  have e0 : -t ≤ -(t * (d - n)) / d := (Int.le_ediv_iff_mul_le (by omega)).2 (by rw [Int.neg_mul, Int.mul_sub]; omega)
  have e1 : -(t * (d - n)) / d < 1 := (Int.ediv_lt_iff_lt_mul (by omega)).2 (by omega)
  omega
theorem mostC_bd {n d t : Int} (h1 : dOk n d = true) (h2 : tOk t = true) : t ≤ mostC n d t ∧ mostC n d t ≤ 2 * t := by
  have g1 := dOk_iff.1 h1
  have g2 := tOk_iff.1 h2
  unfold mostC
  have hq := Int.mul_nonneg g2.1 g1.2.2.1
  have hr := Int.mul_nonneg g2.1 (show 0 ≤ d - n by omega)
  have e0 : t ≤ t * (d + n) / d := (Int.le_ediv_iff_mul_le (by omega)).2 (by rw [Int.mul_add]; omega)
  have e1 : t * (d + n) / d < 2 * t + 1 := (Int.ediv_lt_iff_lt_mul (by omega)).2 (by
    have e : (2 * t + 1) * d = t * (d + n) + t * (d - n) + d := by
      rw [Int.add_mul, Int.one_mul, Int.mul_assoc, Int.mul_add, Int.mul_sub]
      omega
    rw [e]
    omega)
  omega
theorem tld_true (v : Int) : tld true v = if v ≤ 1000000000000 then (v, true) else (0, false) := by
  unfold tld
  simp
theorem tld_false (v : Int) : tld false v = (0, false) := by
  unfold tld
  simp
theorem cts_in {n d t : Int} (h : (cts n d t).2.2 = true) : dOk n d = true ∧ tOk t = true ∧ (cts n d t).1 = leastC n d t ∧ (cts n d t).2.1 = mostC n d t ∧ mostC n d t ≤ 1000000000000 := by
  unfold cts at h ⊢
  by_cases c : (dOk n d && tOk t) = true
  · rw [c] at h ⊢
    rw [Bool.and_eq_true] at c
    rw [tld_true, tld_true] at h ⊢
    by_cases c1 : leastC n d t ≤ 1000000000000
    · rw [if_pos c1] at h ⊢
      by_cases c2 : mostC n d t ≤ 1000000000000
      · rw [if_pos c2] at h ⊢
        exact ⟨c.1, c.2, by simp, by simp, c2⟩
      · rw [if_neg c2] at h
        simp at h
    · rw [if_neg c1] at h
      simp at h
  · rw [Bool.not_eq_true] at c
    rw [c] at h
    simp [tld_false] at h
/-- What Clamp tells. -/
def clamp (n d t w : Int) : Int × Bool := if (cts n d t).2.2 = true then (mx (cts n d t).1 (mn (cts n d t).2.1 w), true) else (0, false)
theorem iClamp_eq (n d t w : Int) : impl_Clamp.f n d t w = some (clamp n d t w) := by
  unfold impl_Clamp.f clamp
  simp only [icounts_eq, Option.bind_some]
  by_cases c : (cts n d t).2.2 = true
  · rw [if_pos c, if_pos c]
    obtain ⟨h1, h2, e1, e2, h3⟩ := cts_in c
    unfold impl_Nearest.f
    have b1 := leastC_bd h1 h2
    have b2 := mostC_bd h1 h2
    simp only [iIvalOk_eq, Option.bind_some, decide_eq_true_eq]
    rw [if_pos (by rw [e1, e2]; omega)]
    rfl
  · rw [if_neg c, if_neg c]
theorem sClamp_j0 (k : Nat) (n d t w : Int) (c : (cts n d t).2.2 = true) : spec_Clamp.j0 (k + 1) w (leastC n d t) (mostC n d t) false = some (mx (leastC n d t) (mn (mostC n d t) w), true) := by
  obtain ⟨h1, h2, _, _, h3⟩ := cts_in c
  have b1 := leastC_bd h1 h2
  have b2 := mostC_bd h1 h2
  simp only [spec_Clamp.j0, Bool.false_eq_true, if_false, l1Max_eq, l1Min_eq, Option.bind_some]
  congr 1
  refine Prod.ext ?_ rfl
  simp only
  unfold mx mn
  omega
theorem sClamp_eq (k : Nat) (n d t w : Int) : spec_Clamp.f (k + 1) n d t w = some (clamp n d t w) := by
  unfold spec_Clamp.f clamp
  simp only [sLeastCount_eq, sMostCount_eq, Option.bind_some]
  by_cases c : (cts n d t).2.2 = true
  · obtain ⟨h1, h2, e1, e2, h3⟩ := cts_in c
    have b1 := leastC_bd h1 h2
    have b2 := mostC_bd h1 h2
    rw [if_pos c, e1, e2, h1, h2, Bool.and_self, tld_true, tld_true, if_pos (show leastC n d t ≤ 1000000000000 by omega), if_pos h3]
    simp only [if_true, Bool.not_true]
    exact sClamp_j0 k n d t w c
  · rw [if_neg c]
    unfold cts at c
    by_cases c1 : (tld (dOk n d && tOk t) (leastC n d t)).2 = true
    · rw [if_pos c1] at c ⊢
      by_cases c2 : (tld (dOk n d && tOk t) (mostC n d t)).2 = true
      · rw [if_pos c2] at c
        simp at c
      · rw [Bool.not_eq_true] at c2
        rw [c2]
        simp [spec_Clamp.j0]
    · rw [if_neg c1]
      simp [spec_Clamp.j0]
def oOk (n d t c : Int) : Bool := dOk n d && (tOk t && tOk c)
theorem iOscOk_eq (n d t c : Int) : impl_OscOk.f n d t c = some (oOk n d t c) := by
  unfold impl_OscOk.f oOk
  simp only [iDriftOk_eq, isTime_eq, Option.bind_some]
  change (if dOk n d = true then (if tOk t = true then some (tOk c) else some false) else some false) = _
  cases dOk n d <;> cases tOk t <;> simp
theorem sOscOk_eq (n d t c : Int) : spec_OscOk.f n d t c = some (oOk n d t c) := by
  unfold spec_OscOk.f oOk
  simp only [sDriftOk_eq, l2Time_eq, Option.bind_some]
  change (if dOk n d = true then (if tOk t = true then some (tOk c) else some false) else some false) = _
  cases dOk n d <;> cases tOk t <;> simp
/-- What OscStep tells. -/
def oStep (n d t c b w : Int) : Int × Int × Int × Int × Bool :=
  if oOk n d t c = true then (if (clamp n d b w).2 = true ∧ t + b ≤ 1000000000000 ∧ c + (clamp n d b w).1 ≤ 1000000000000 then (n, d, t + b, c + (clamp n d b w).1, true) else (n, d, t, c, false)) else (0, 0, 0, 0, false)
theorem clamp_bd {n d b w : Int} (h : (clamp n d b w).2 = true) : dOk n d = true ∧ tOk b = true ∧ leastC n d b ≤ (clamp n d b w).1 ∧ (clamp n d b w).1 ≤ mostC n d b ∧ mostC n d b ≤ 1000000000000 ∧ 0 ≤ (clamp n d b w).1 := by
  unfold clamp at h ⊢
  by_cases c : (cts n d b).2.2 = true
  · rw [if_pos c]
    obtain ⟨h1, h2, e1, e2, h3⟩ := cts_in c
    have b1 := leastC_bd h1 h2
    have b2 := mostC_bd h1 h2
    rw [e1, e2]
    refine ⟨h1, h2, ?_, ?_, h3, ?_⟩ <;> (simp only; unfold mx mn; omega)
  · rw [if_neg c] at h
    simp at h
theorem oOk_iff {n d t c : Int} : oOk n d t c = true ↔ dOk n d = true ∧ (0 ≤ t ∧ t ≤ 1000000000000) ∧ (0 ≤ c ∧ c ≤ 1000000000000) := by
  unfold oOk
  rw [Bool.and_eq_true, Bool.and_eq_true, tOk_iff, tOk_iff]
theorem iOscStep_eq (n d t c b w : Int) : impl_OscStep.f n d t c b w = some (oStep n d t c b w) := by
  unfold impl_OscStep.f oStep
  simp only [iOscOk_eq, iClamp_eq, Option.bind_some, isTime_eq, decide_eq_true_eq]
  by_cases c1 : oOk n d t c = true
  · rw [if_pos c1, if_pos c1]
    have g := oOk_iff.1 c1
    by_cases c2 : (clamp n d b w).2 = true
    · rw [if_pos c2]
      obtain ⟨_, h2, _, _, h3, h4⟩ := clamp_bd c2
      have h5 := tOk_iff.1 h2
      rw [w64 (x := t + b) (by omega) (by omega), w64 (x := c + (clamp n d b w).1) (by omega) (by omega)]
      by_cases c3 : t + b ≤ 1000000000000
      · rw [if_pos (by omega)]
        by_cases c4 : c + (clamp n d b w).1 ≤ 1000000000000
        · rw [if_pos (by omega), if_pos ⟨c2, c3, c4⟩]
        · rw [if_neg (by omega), if_neg (by omega)]
      · rw [if_neg (by omega), if_neg (by omega)]
    · rw [if_neg c2, if_neg (fun h => c2 h.1)]
  · rw [if_neg c1, if_neg c1]
theorem sOscStep_eq (k : Nat) (n d t c b w : Int) : spec_OscStep.f (k + 1) n d t c b w = some (oStep n d t c b w) := by
  unfold spec_OscStep.f oStep
  simp only [sOscOk_eq, sClamp_eq, Option.bind_some]
  by_cases c1 : oOk n d t c = true
  · rw [if_pos c1, if_pos c1]
    have g := oOk_iff.1 c1
    by_cases c2 : (clamp n d b w).2 = true
    · rw [if_pos c2]
      obtain ⟨_, h2, _, _, h3, h4⟩ := clamp_bd c2
      have h5 := tOk_iff.1 h2
      rw [w64 (x := t + b) (by omega) (by omega), w64 (x := c + (clamp n d b w).1) (by omega) (by omega)]
      by_cases c3 : t + b ≤ 1000000000000
      · rw [if_neg (by omega)]
        by_cases c4 : c + (clamp n d b w).1 ≤ 1000000000000
        · rw [if_neg (by omega), if_pos ⟨c2, c3, c4⟩]
        · rw [if_pos (by omega), if_neg (by omega)]
      · rw [if_pos (by omega), if_neg (by omega)]
    · rw [if_neg c2, if_neg (fun h => c2 h.1)]
  · rw [if_neg c1, if_neg c1]
theorem ev1 {α : Type} {g : Nat → Option α} {r : α} (h : ∀ k, g (k + 1) = some r) : Ev g r := ⟨1, fun k hk => by obtain ⟨m, rfl⟩ : ∃ m, k = m + 1 := ⟨k - 1, by omega⟩; exact h m⟩

abbrev MK := S38
theorem rdM_nat (l : List MK) (i : Nat) (hi : i < l.length) : rd_T38 l (i : Int) = l[i] := by
  unfold rd_T38
  rw [List.getD_eq_getElem?_getD]
  simp [List.getElem?_eq_getElem hi]
theorem rdM_take (l : List MK) (i j : Nat) (hj : j < i) : rd_T38 (l.take i) (j : Int) = rd_T38 l (j : Int) := by
  unfold rd_T38
  rw [List.getD_eq_getElem?_getD, List.getD_eq_getElem?_getD, Int.toNat_natCast, List.getElem?_take_of_lt hj]
/-- All of d naturals from j on. -/
def allF (f : Nat → Bool) : Nat → Nat → Bool
  | 0, _ => true
  | d + 1, j => f j && allF f d (j + 1)
theorem allF_iff (f : Nat → Bool) : ∀ d j, allF f d j = true ↔ ∀ i, j ≤ i → i < j + d → f i = true := by
  intro d
  induction d with
  | zero => intro j; simp only [allF, true_iff]; intro i h1 h2; omega
  | succ d ih =>
    intro j
    rw [allF, Bool.and_eq_true, ih]
    constructor
    · rintro ⟨h1, h2⟩ i h3 h4
      by_cases c : i = j
      · rw [c]; exact h1
      · exact h2 i (by omega) (by omega)
    · intro h
      exact ⟨h j (Nat.le_refl j) (by omega), fun i h1 h2 => h i (by omega) (by omega)⟩
theorem allF_all (f : Nat → Bool) (d j : Nat) (h : ∀ i, f i = true) : allF f d j = true := (allF_iff f d j).2 fun i _ _ => h i
/-- A count of a time. -/
def mayC (n d c t : Int) : Bool := dOk n d && (tOk c && (tOk t && (decide (c * (d - n) ≤ t * d) && decide (t * d ≤ c * (d + n)))))
theorem may_ws {n d c t : Int} (h1 : dOk n d = true) (h2 : tOk c = true) (h3 : tOk t = true) : wrap64 (d - n) = d - n ∧ wrap64 (d + n) = d + n ∧ wrap64 (c * (d - n)) = c * (d - n) ∧ wrap64 (c * (d + n)) = c * (d + n) ∧ wrap64 (t * d) = t * d := by
  have g1 := dOk_iff.1 h1
  have g2 := tOk_iff.1 h2
  have g3 := tOk_iff.1 h3
  have a1 := Int.mul_nonneg g2.1 (show 0 ≤ d - n by omega)
  have a2 := Int.mul_nonneg g2.1 (show 0 ≤ d + n by omega)
  have a3 := Int.mul_nonneg g3.1 (show 0 ≤ d by omega)
  have b1 := Int.mul_le_mul g2.2 (show d - n ≤ 1000000 by omega) (show 0 ≤ d - n by omega) (by omega)
  have b2 := Int.mul_le_mul g2.2 (show d + n ≤ 1500000 by omega) (show 0 ≤ d + n by omega) (by omega)
  have b3 := Int.mul_le_mul g3.2 g1.2.1 (show 0 ≤ d by omega) (by omega)
  exact ⟨w64 (by omega) (by omega), w64 (by omega) (by omega), w64 (by omega) (by omega), w64 (by omega) (by omega), w64 (by omega) (by omega)⟩
theorem eqMark_self (a b : Int) : laws_eqMark.f a b a b = some true := by
  unfold laws_eqMark.f
  simp
theorem eqMarkS_l0 (l : List MK) (hl : l.length ≤ 9223372036854775806) (d : Nat) : ∀ i : Nat, i + d = l.length → Ev (fun k => laws_eqMarkS.l0 k l l i) true := by
  induction d with
  | zero =>
    intro i hi
    refine Ev.step (fun k => by simp only [laws_eqMarkS.l0]; rfl) ?_
    simp only [show ¬ ((i : Int) < (l.length : Int)) by omega, if_false]
    exact Ev.now true
  | succ d ih =>
    intro i hi
    refine Ev.step (fun k => by simp only [laws_eqMarkS.l0]; rfl) ?_
    simp only [show (i : Int) < (l.length : Int) by omega, show (0 : Int) ≤ (i : Int) by omega, if_true, eqMark_self, Option.bind_some]
    rw [w64 (by omega) (by omega)]
    exact ih (i + 1) (by omega)
theorem eqMarkS_ev (l : List MK) (hl : l.length ≤ 9223372036854775806) : Ev (fun k => laws_eqMarkS.f k l l) true := by
  unfold laws_eqMarkS.f
  simp only [if_true]
  exact eqMarkS_l0 l hl l.length 0 (by omega)

def mk2Mark (m n : Nat) : List S38 := (List.range n).map fun j => ⟨((m + 2 * j : Nat) : Int), ((m + 2 * j + 1 : Nat) : Int)⟩
theorem mk2Mark_len (m n : Nat) : (mk2Mark m n).length = n := by simp [mk2Mark]
theorem mk2Mark_succ (m n : Nat) : mk2Mark m (n + 1) = mk2Mark m n ++ [⟨((m + 2 * n : Nat) : Int), ((m + 2 * n + 1 : Nat) : Int)⟩] := by simp [mk2Mark, List.range_succ]
theorem rd2Mark_nat (l : List S38) (i : Nat) (hi : i < l.length) : rd_T38 l (i : Int) = l[i] := by
  unfold rd_T38
  rw [List.getD_eq_getElem?_getD]
  simp [List.getElem?_eq_getElem hi]
theorem mk2Mark_get (m n i : Nat) (h : i < n) : rd_T38 (mk2Mark m n) (i : Int) = ⟨((m + 2 * i : Nat) : Int), ((m + 2 * i + 1 : Nat) : Int)⟩ := by
  rw [rd2Mark_nat _ i (by rw [mk2Mark_len]; exact h)]
  simp [mk2Mark]
theorem mark2Mark_l0 (l : List S38) (m : Nat) (hl : m + 2 * l.length ≤ 9223372036854775806) (d : Nat) : ∀ i : Nat, i + d = l.length →
    Ev (fun k => laws_markMarkS.l0 k (mk2Mark m i ++ l.drop i) ((m + 2 * i : Nat) : Int) (i : Int)) (((m + 2 * l.length : Nat) : Int), mk2Mark m l.length) := by
  induction d with
  | zero =>
    intro i hi
    refine Ev.step (fun k => by simp only [laws_markMarkS.l0]; rfl) ?_
    have hlen : (mk2Mark m i ++ l.drop i).length = l.length := by rw [List.length_append, mk2Mark_len, List.length_drop]; omega
    rw [hlen]
    simp only [show ¬ ((i : Int) < (l.length : Int)) by omega, if_false]
    have : i = l.length := by omega
    subst this
    rw [List.drop_length, List.append_nil]
    exact Ev.now _
  | succ d ih =>
    intro i hi
    refine Ev.step (fun k => by simp only [laws_markMarkS.l0]; rfl) ?_
    have hlen : (mk2Mark m i ++ l.drop i).length = l.length := by rw [List.length_append, mk2Mark_len, List.length_drop]; omega
    rw [hlen]
    simp only [show (i : Int) < (l.length : Int) by omega, show (0 : Int) ≤ (i : Int) by omega, if_true, Int.toNat_natCast, Option.bind_some, List.set_set]
    rw [w64 (x := ((m + 2 * i : Nat) : Int) + 1) (by omega) (by omega), w64 (x := ((m + 2 * i : Nat) : Int) + 1 + 1) (by omega) (by omega), w64 (x := (i : Int) + 1) (by omega) (by omega)]
    have e : ∀ v : S38, rd_T38 ((mk2Mark m i ++ l.drop i).set i v) (i : Int) = v := by
      intro v
      rw [rd2Mark_nat _ i (by rw [List.length_set, hlen]; omega), List.getElem_set_self]
    rw [e]
    have e : (mk2Mark m i ++ l.drop i).set i ⟨((m + 2 * i : Nat) : Int), ((m + 2 * i + 1 : Nat) : Int)⟩ = mk2Mark m (i + 1) ++ l.drop (i + 1) := by
      rw [List.set_append_right _ _ (by rw [mk2Mark_len]; exact Nat.le_refl i), mk2Mark_len, Nat.sub_self, List.drop_eq_getElem_cons (by omega), List.set_cons_zero, mk2Mark_succ, List.append_assoc]
      rfl
    have ih' := ih (i + 1) (by omega)
    rw [← e] at ih'
    exact ih'
theorem mark2Mark_ev (l : List S38) (m : Nat) (hl : m + 2 * l.length ≤ 9223372036854775806) : Ev (fun k => laws_markMarkS.f k l (m : Int)) (((m + 2 * l.length : Nat) : Int), mk2Mark m l.length) := by
  unfold laws_markMarkS.f
  have := mark2Mark_l0 l m hl l.length 0 (by omega)
  simpa [mk2Mark] using this
theorem held2Mark_l0 (m n : Nat) (hl : m + 2 * n ≤ 9223372036854775806) (d : Nat) : ∀ i : Nat, i + d = n → Ev (fun k => laws_heldMarkS.l0 k (mk2Mark m n) ((m + 2 * i : Nat) : Int) (i : Int)) ((m + 2 * n : Nat) : Int) := by
  induction d with
  | zero =>
    intro i hi
    refine Ev.step (fun k => by simp only [laws_heldMarkS.l0]; rfl) ?_
    rw [mk2Mark_len]
    simp only [show ¬ ((i : Int) < (n : Int)) by omega, if_false]
    have : i = n := by omega
    subst this
    exact Ev.now _
  | succ d ih =>
    intro i hi
    refine Ev.step (fun k => by simp only [laws_heldMarkS.l0]; rfl) ?_
    rw [mk2Mark_len, mk2Mark_get m n i (by omega)]
    rw [w64 (x := ((m + 2 * i : Nat) : Int) + 1) (by omega) (by omega), w64 (x := ((m + 2 * i : Nat) : Int) + 1 + 1) (by omega) (by omega), w64 (x := (i : Int) + 1) (by omega) (by omega)]
    simp only [show (i : Int) < (n : Int) by omega, show (0 : Int) ≤ (i : Int) by omega, if_true, show ((m + 2 * i + 1 : Nat) : Int) = ((m + 2 * i : Nat) : Int) + 1 by omega]
    have ih' := ih (i + 1) (by omega)
    rw [show ((m + 2 * (i + 1) : Nat) : Int) = ((m + 2 * i : Nat) : Int) + 1 + 1 by omega] at ih'
    exact ih'
theorem held2Mark_ev (m n : Nat) (hl : m + 2 * n ≤ 9223372036854775806) : Ev (fun k => laws_heldMarkS.f k (mk2Mark m n) (m : Int)) ((m + 2 * n : Nat) : Int) := by
  unfold laws_heldMarkS.f
  have := held2Mark_l0 m n hl n 0 (by omega)
  simpa using this
def mk2Stride (m n : Nat) : List S86 := (List.range n).map fun j => ⟨((m + 2 * j : Nat) : Int), ((m + 2 * j + 1 : Nat) : Int)⟩
theorem mk2Stride_len (m n : Nat) : (mk2Stride m n).length = n := by simp [mk2Stride]
theorem mk2Stride_succ (m n : Nat) : mk2Stride m (n + 1) = mk2Stride m n ++ [⟨((m + 2 * n : Nat) : Int), ((m + 2 * n + 1 : Nat) : Int)⟩] := by simp [mk2Stride, List.range_succ]
theorem rd2Stride_nat (l : List S86) (i : Nat) (hi : i < l.length) : rd_T86 l (i : Int) = l[i] := by
  unfold rd_T86
  rw [List.getD_eq_getElem?_getD]
  simp [List.getElem?_eq_getElem hi]
theorem mk2Stride_get (m n i : Nat) (h : i < n) : rd_T86 (mk2Stride m n) (i : Int) = ⟨((m + 2 * i : Nat) : Int), ((m + 2 * i + 1 : Nat) : Int)⟩ := by
  rw [rd2Stride_nat _ i (by rw [mk2Stride_len]; exact h)]
  simp [mk2Stride]
theorem mark2Stride_l0 (l : List S86) (m : Nat) (hl : m + 2 * l.length ≤ 9223372036854775806) (d : Nat) : ∀ i : Nat, i + d = l.length →
    Ev (fun k => laws_markStrideS.l0 k (mk2Stride m i ++ l.drop i) ((m + 2 * i : Nat) : Int) (i : Int)) (((m + 2 * l.length : Nat) : Int), mk2Stride m l.length) := by
  induction d with
  | zero =>
    intro i hi
    refine Ev.step (fun k => by simp only [laws_markStrideS.l0]; rfl) ?_
    have hlen : (mk2Stride m i ++ l.drop i).length = l.length := by rw [List.length_append, mk2Stride_len, List.length_drop]; omega
    rw [hlen]
    simp only [show ¬ ((i : Int) < (l.length : Int)) by omega, if_false]
    have : i = l.length := by omega
    subst this
    rw [List.drop_length, List.append_nil]
    exact Ev.now _
  | succ d ih =>
    intro i hi
    refine Ev.step (fun k => by simp only [laws_markStrideS.l0]; rfl) ?_
    have hlen : (mk2Stride m i ++ l.drop i).length = l.length := by rw [List.length_append, mk2Stride_len, List.length_drop]; omega
    rw [hlen]
    simp only [show (i : Int) < (l.length : Int) by omega, show (0 : Int) ≤ (i : Int) by omega, if_true, Int.toNat_natCast, Option.bind_some, List.set_set]
    rw [w64 (x := ((m + 2 * i : Nat) : Int) + 1) (by omega) (by omega), w64 (x := ((m + 2 * i : Nat) : Int) + 1 + 1) (by omega) (by omega), w64 (x := (i : Int) + 1) (by omega) (by omega)]
    have e : ∀ v : S86, rd_T86 ((mk2Stride m i ++ l.drop i).set i v) (i : Int) = v := by
      intro v
      rw [rd2Stride_nat _ i (by rw [List.length_set, hlen]; omega), List.getElem_set_self]
    rw [e]
    have e : (mk2Stride m i ++ l.drop i).set i ⟨((m + 2 * i : Nat) : Int), ((m + 2 * i + 1 : Nat) : Int)⟩ = mk2Stride m (i + 1) ++ l.drop (i + 1) := by
      rw [List.set_append_right _ _ (by rw [mk2Stride_len]; exact Nat.le_refl i), mk2Stride_len, Nat.sub_self, List.drop_eq_getElem_cons (by omega), List.set_cons_zero, mk2Stride_succ, List.append_assoc]
      rfl
    have ih' := ih (i + 1) (by omega)
    rw [← e] at ih'
    exact ih'
theorem mark2Stride_ev (l : List S86) (m : Nat) (hl : m + 2 * l.length ≤ 9223372036854775806) : Ev (fun k => laws_markStrideS.f k l (m : Int)) (((m + 2 * l.length : Nat) : Int), mk2Stride m l.length) := by
  unfold laws_markStrideS.f
  have := mark2Stride_l0 l m hl l.length 0 (by omega)
  simpa [mk2Stride] using this
abbrev SR := S86
theorem rdSR_nat (l : List SR) (i : Nat) (hi : i < l.length) : rd_T86 l (i : Int) = l[i] := by
  unfold rd_T86
  rw [List.getD_eq_getElem?_getD]
  simp [List.getElem?_eq_getElem hi]
/-- What a run of an oscillator tells. -/
def oRun (n d t c : Int) (acc : List MK) (i : Nat) : List SR → List MK × Int
  | [] => (acc, (i : Int))
  | s :: r => if (oStep n d t c s.f0 s.f1).2.2.2.2 = true then oRun (oStep n d t c s.f0 s.f1).1 (oStep n d t c s.f0 s.f1).2.1 (oStep n d t c s.f0 s.f1).2.2.1 (oStep n d t c s.f0 s.f1).2.2.2.1 (acc ++ [⟨(oStep n d t c s.f0 s.f1).2.2.1, (oStep n d t c s.f0 s.f1).2.2.2.1⟩]) (i + 1) r else (acc, (i : Int))
theorem oRun_len (r : List SR) : ∀ n d t c acc i, (oRun n d t c acc i r).1.length ≤ acc.length + r.length := by
  induction r with
  | nil => intro n d t c acc i; rw [oRun]; simp
  | cons s r ih =>
    intro n d t c acc i
    rw [oRun]
    split
    · have := ih (oStep n d t c s.f0 s.f1).1 (oStep n d t c s.f0 s.f1).2.1 (oStep n d t c s.f0 s.f1).2.2.1 (oStep n d t c s.f0 s.f1).2.2.2.1 (acc ++ [⟨(oStep n d t c s.f0 s.f1).2.2.1, (oStep n d t c s.f0 s.f1).2.2.2.1⟩]) (i + 1)
      rw [List.length_append] at this
      simp only [List.length_cons, List.length_nil] at this ⊢
      omega
    · simp
def oscRun (n d t c : Int) (l : List SR) : List MK × Int := if oOk n d t c = true ∧ l.length ≤ 200 then oRun n d t c [⟨t, c⟩] 0 l else ([], 0)
theorem oscRun_len (n d t c : Int) (l : List SR) : (oscRun n d t c l).1.length ≤ 201 := by
  unfold oscRun
  split
  · next h =>
    have := oRun_len l n d t c [⟨t, c⟩] 0
    simp only [List.length_cons, List.length_nil] at this
    omega
  · simp
theorem iOscRun_l0 (l : List SR) (hl : l.length ≤ 200) (q : Nat) : ∀ (i : Nat) (n d t c : Int) (acc : List MK), acc.length + q ≤ 201 → i + q = l.length → Ev (fun k => impl_OscRun.l0 k l acc l (l.length : Int) (i : Int) n d t c) (oRun n d t c acc i (l.drop i)) := by
  induction q with
  | zero =>
    intro i n d t c acc ha h
    refine Ev.step (fun k => by simp only [impl_OscRun.l0]; rfl) ?_
    simp only [show ¬ ((i : Int) < (l.length : Int)) by omega, if_false]
    rw [List.drop_eq_nil_of_le (by omega), oRun, show (l.length : Int) = (i : Int) by omega]
    exact Ev.now _
  | succ q ih =>
    intro i n d t c acc ha h
    refine Ev.step (fun k => by simp only [impl_OscRun.l0]; rfl) ?_
    simp only [show (i : Int) < (l.length : Int) by omega, show (0 : Int) ≤ (i : Int) by omega, if_true, iOscStep_eq, Option.bind_some]
    rw [rdSR_nat l i (by omega), List.drop_eq_getElem_cons (show i < l.length by omega), oRun, w64 (by omega) (by omega)]
    obtain ⟨o, ho⟩ : ∃ o, oStep n d t c (l[i]'(by omega)).f0 (l[i]'(by omega)).f1 = o := ⟨_, rfl⟩
    rw [ho]
    by_cases cc : o.2.2.2.2 = true
    · simp only [cc, if_true, show acc.length < 8796093022208 by omega]
      exact ih (i + 1) _ _ _ _ _ (by rw [List.length_append]; simp only [List.length_cons, List.length_nil]; omega) (by omega)
    · simp only [cc, if_false]
      exact Ev.now _
theorem iOscRun_ev (n d t c : Int) (l : List SR) : Ev (fun k => impl_OscRun.f k n d t c l) (oscRun n d t c l) := by
  unfold impl_OscRun.f oscRun
  simp only [iOscOk_eq, Option.bind_some]
  by_cases c1 : oOk n d t c = true
  · simp only [c1, if_true, true_and]
    refine Ev.step (fun k => by simp only [impl_OscRun.j0]; rfl) ?_
    by_cases c2 : l.length ≤ 200
    · simp only [show ¬ ((l.length : Int) > 200) by omega, decide_false, Bool.false_eq_true, if_false, c2, if_true]
      have := iOscRun_l0 l c2 l.length 0 n d t c [⟨t, c⟩] (by simp only [List.length_cons, List.length_nil]; omega) (by omega)
      simpa using this
    · simp only [show (l.length : Int) > 200 by omega, decide_true, if_true, c2, if_false]
      exact Ev.now _
  · simp only [c1, if_false, false_and]
    refine Ev.step (fun k => by simp only [impl_OscRun.j0]; rfl) ?_
    simp only [if_true]
    exact Ev.now _
theorem sOscRun_l0 (l : List SR) (hl : l.length ≤ 200) (q : Nat) : ∀ (i : Nat) (n d t c : Int) (acc : List MK), acc.length + q ≤ 201 → i + q = l.length → Ev (fun k => spec_OscRun.l0 k l acc (i : Int) n d t c) (oRun n d t c acc i (l.drop i)) := by
  induction q with
  | zero =>
    intro i n d t c acc ha h
    refine Ev.step (fun k => by simp only [spec_OscRun.l0]; rfl) ?_
    simp only [show ¬ ((i : Int) < (l.length : Int)) by omega, if_false]
    rw [List.drop_eq_nil_of_le (by omega), oRun, show (l.length : Int) = (i : Int) by omega]
    exact Ev.now _
  | succ q ih =>
    intro i n d t c acc ha h
    refine Ev.step (fun k => by simp only [spec_OscRun.l0]; rfl) ?_
    simp only [show (i : Int) < (l.length : Int) by omega, show (0 : Int) ≤ (i : Int) by omega, if_true]
    refine Ev.bind (ev1 fun k => sOscStep_eq k _ _ _ _ _ _) ?_
    rw [rdSR_nat l i (by omega), List.drop_eq_getElem_cons (show i < l.length by omega), oRun, w64 (by omega) (by omega)]
    obtain ⟨o, ho⟩ : ∃ o, oStep n d t c (l[i]'(by omega)).f0 (l[i]'(by omega)).f1 = o := ⟨_, rfl⟩
    rw [ho]
    by_cases cc : o.2.2.2.2 = true
    · simp only [cc, if_true, show acc.length < 8796093022208 by omega]
      exact ih (i + 1) _ _ _ _ _ (by rw [List.length_append]; simp only [List.length_cons, List.length_nil]; omega) (by omega)
    · simp only [cc, if_false]
      exact Ev.now _
theorem sOscRun_ev (n d t c : Int) (l : List SR) : Ev (fun k => spec_OscRun.f k n d t c l) (oscRun n d t c l) := by
  unfold spec_OscRun.f oscRun
  simp only [sOscOk_eq, Option.bind_some]
  by_cases c1 : oOk n d t c = true
  · simp only [c1, if_true, true_and]
    refine Ev.step (fun k => by simp only [spec_OscRun.j0]; rfl) ?_
    by_cases c2 : l.length ≤ 200
    · simp only [show ¬ ((l.length : Int) > 200) by omega, decide_false, Bool.false_eq_true, if_false, c2, if_true]
      have := sOscRun_l0 l c2 l.length 0 n d t c [⟨t, c⟩] (by simp only [List.length_cons, List.length_nil]; omega) (by omega)
      simpa using this
    · simp only [show (l.length : Int) > 200 by omega, decide_true, if_true, c2, if_false]
      exact Ev.now _
  · simp only [c1, if_false, false_and]
    refine Ev.step (fun k => by simp only [spec_OscRun.j0]; rfl) ?_
    simp only [if_true]
    exact Ev.now _
theorem toStride_eq (a b : Int) : laws_toStride.f a b = some (a, b) := rfl
theorem eqStride_self (a b : Int) : laws_eqStride.f a b a b = some true := by
  unfold laws_eqStride.f
  simp
theorem rdLS_nat (l : List S88) (i : Nat) (hi : i < l.length) : rd_T88 l (i : Int) = l[i] := by
  unfold rd_T88
  rw [List.getD_eq_getElem?_getD]
  simp [List.getElem?_eq_getElem hi]
def cvS (x : S88) : SR := ⟨x.f0, x.f1⟩
theorem cvS_set (l : List S88) (i : Nat) (h : i < l.length) (z : SR) : ((l.take i).map cvS ++ List.replicate (l.length - i) z).set i (cvS l[i]) = (l.take (i + 1)).map cvS ++ List.replicate (l.length - (i + 1)) z := by
  have e : l.length - i = (l.length - (i + 1)) + 1 := by omega
  have e2 : ((l.take i).map cvS).length = i := by rw [List.length_map, List.length_take]; omega
  rw [e, List.replicate_succ, List.set_append_right _ _ (by omega), e2, Nat.sub_self, List.set_cons_zero, List.take_succ_eq_append_getElem h, List.map_append, List.append_assoc]
  rfl
theorem toStrideS_l0 (l : List S88) (hl : l.length ≤ 9223372036854775806) (z : SR) (d : Nat) : ∀ i : Nat, i + d = l.length → Ev (fun k => laws_toStrideS.l0 k l ((l.take i).map cvS ++ List.replicate (l.length - i) z) i) (l.map cvS) := by
  induction d with
  | zero =>
    intro i hi
    refine Ev.step (fun k => by simp only [laws_toStrideS.l0]; rfl) ?_
    simp only [show ¬ ((i : Int) < (l.length : Int)) by omega, if_false]
    rw [List.take_of_length_le (by omega), show l.length - i = 0 by omega]
    simpa using Ev.now (l.map cvS)
  | succ d ih =>
    intro i hi
    refine Ev.step (fun k => by simp only [laws_toStrideS.l0]; rfl) ?_
    have hlen : ((l.take i).map cvS ++ List.replicate (l.length - i) z).length = l.length := by
      rw [List.length_append, List.length_map, List.length_take, List.length_replicate]
      omega
    rw [hlen]
    simp only [show (i : Int) < (l.length : Int) by omega, show (0 : Int) ≤ (i : Int) by omega, if_true, Int.toNat_natCast, toStride_eq, Option.bind_some]
    rw [rdLS_nat l i (by omega), w64 (by omega) (by omega)]
    have := ih (i + 1) (by omega)
    rw [← cvS_set l i (by omega) z] at this
    exact this
theorem toStrideS_ev (l : List S88) (hl : l.length ≤ 1048576) : Ev (fun k => laws_toStrideS.f k l) (l.map cvS) := by
  unfold laws_toStrideS.f
  simp only [show (0 : Int) ≤ (l.length : Int) by omega, Int.toNat_natCast, show l.length ≤ 17592186044416 by omega, if_true]
  have := toStrideS_l0 l (by omega) z86 l.length 0 (by omega)
  simpa using this
theorem eqStrideS_l0 (l : List SR) (hl : l.length ≤ 9223372036854775806) (d : Nat) : ∀ i : Nat, i + d = l.length → Ev (fun k => laws_eqStrideS.l0 k l l i) true := by
  induction d with
  | zero =>
    intro i hi
    refine Ev.step (fun k => by simp only [laws_eqStrideS.l0]; rfl) ?_
    simp only [show ¬ ((i : Int) < (l.length : Int)) by omega, if_false]
    exact Ev.now true
  | succ d ih =>
    intro i hi
    refine Ev.step (fun k => by simp only [laws_eqStrideS.l0]; rfl) ?_
    simp only [show (i : Int) < (l.length : Int) by omega, show (0 : Int) ≤ (i : Int) by omega, if_true, eqStride_self, Option.bind_some]
    rw [w64 (by omega) (by omega)]
    exact ih (i + 1) (by omega)
theorem eqStrideS_ev (l : List SR) (hl : l.length ≤ 9223372036854775806) : Ev (fun k => laws_eqStrideS.f k l l) true := by
  unfold laws_eqStrideS.f
  simp only [if_true]
  exact eqStrideS_l0 l hl l.length 0 (by omega)

theorem FnExactOscRun (a0_0 : Int) (a0_1 : Int) (a0_2 : Int) (a0_3 : Int) (l1 : List S88) (_h : ((Lit.int .i64 a0_0).wf = true ∧ (Lit.int .i64 a0_1).wf = true) ∧ (Lit.int .i64 a0_2).wf = true ∧ (Lit.int .i64 a0_3).wf = true) (_h1 : ∀ x ∈ l1, (Lit.int .i64 x.f0).wf = true ∧ (Lit.int .i64 x.f1).wf = true) (hm : l1.length ≤ 9223372036854775807) : ∃ k, laws_FnExactOscRun.f k a0_0 a0_1 a0_2 a0_3 l1 = some true := by
  apply Ev.rounds
  unfold laws_FnExactOscRun.f laws_szStrideS.f laws_toOsc.f
  rw [w64 (x := 1048576 - (l1.length : Int)) (by omega) (by omega)]
  by_cases c : 1048576 - (l1.length : Int) < 0
  · simp only [c, if_true, Option.bind_some, show (-1 : Int) < 0 by omega]
    exact Ev.now true
  · simp only [c, if_false, Option.bind_some, toDrift_eq]
    refine Ev.bind (toStrideS_ev l1 (by omega)) ?_
    refine Ev.bind (sOscRun_ev _ _ _ _ _) ?_
    refine Ev.bind (toStrideS_ev l1 (by omega)) ?_
    refine Ev.bind (iOscRun_ev _ _ _ _ _) ?_
    have hlen := oscRun_len a0_0 a0_1 a0_2 a0_3 (l1.map cvS)
    refine Ev.bind (eqMarkS_ev _ (by omega)) ?_
    simp only [if_true, bne_self_eq_false]
    refine Ev.step (fun k => by simp only [laws_FnExactOscRun.j0]; rfl) ?_
    simp only [Bool.false_eq_true, if_false]
    refine Ev.bind (toStrideS_ev l1 (by omega)) ?_
    refine Ev.bind (eqStrideS_ev _ (by rw [List.length_map]; omega)) ?_
    simp only [if_true]
    refine Ev.bind (mark2Stride_ev _ 1 (by rw [List.length_map]; omega)) ?_
    simp only [show ¬ (((1 + 2 * (l1.map cvS).length : Nat) : Int) < 0) by omega, if_false]
    refine Ev.bind (eqMarkS_ev _ (by omega)) ?_
    simp only [if_true, bne_self_eq_false]
    refine Ev.step (fun k => by simp only [laws_FnExactOscRun.j1]; rfl) ?_
    simp only [Bool.false_eq_true, if_false]
    refine Ev.bind (mark2Mark_ev _ 1 (by omega)) ?_
    refine Ev.bind (held2Mark_ev 1 _ (by omega)) ?_
    simp only [show ¬ (((1 + 2 * (oscRun a0_0 a0_1 a0_2 a0_3 (l1.map cvS)).1.length : Nat) : Int) < 0) by omega, if_false, if_true, laws_toOsc.f, toDrift_eq, Option.bind_some]
    refine Ev.bind (toStrideS_ev l1 (by omega)) ?_
    refine Ev.bind (iOscRun_ev _ _ _ _ _) ?_
    refine Ev.bind (eqMarkS_ev _ (by omega)) ?_
    simp only [if_true, bne_self_eq_false]
    refine Ev.step (fun k => by simp only [laws_FnExactOscRun.j2]; rfl) ?_
    simp only [Bool.false_eq_true, if_false]
    refine Ev.bind (held2Mark_ev 1 _ (by omega)) ?_
    simp only [show ¬ (((1 + 2 * (oscRun a0_0 a0_1 a0_2 a0_3 (l1.map cvS)).1.length : Nat) : Int) < 0) by omega, if_false, if_true]
    exact Ev.now true

end Go.Proofs.Ytlikojcfjamgpaa.Pure
