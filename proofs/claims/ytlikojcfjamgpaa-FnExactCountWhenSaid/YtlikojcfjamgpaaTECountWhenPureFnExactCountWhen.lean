/- The plain half of FnExactCountWhen: what the printed functions compute, over numbers and lists alone. No condition. -/
import Derived.Test.YtlikojcfjamgpaaTECountWhenXFnExactCountWhenx
import Derived.OpenShut
namespace Go.Proofs.Ytlikojcfjamgpaa.Pure
open Go.RowKit Go.Proofs.Ytlikojcfjamgpaa.XFnExactCountWhen Go.Proofs.YtlikojcfjamgpaaW.PrintWords Go.Proofs.YtlikojcfjamgpaaW.PrintLast Go.Proofs.YtlikojcfjamgpaaW.PrintMore
set_option linter.unusedVariables false
set_option linter.unusedSimpArgs false
theorem wf64 {x : Int} (h : (Lit.int .i64 x).wf = true) : -9223372036854775808 ≤ x ∧ x ≤ 9223372036854775807 := by
 simp [Lit.wf, IntKind.min, IntKind.max, IntKind.signed, IntKind.bits] at h
 omega
theorem w64 {x : Int} (h1 : -9223372036854775808 ≤ x) (h2 : x ≤ 9223372036854775807) : wrap64 x = x := by
 unfold wrap64
 omega
theorem in_eq (a b c : Int) : impl_in.f a b c = some (decide (b ≤ a ∧ a ≤ c)) := by
 unfold impl_in.f
 by_cases h : b ≤ a <;> simp [h]
theorem l1In_eq (a b c : Int) : spec_l1In.f a b c = some (decide (b ≤ a ∧ a ≤ c)) := by
 unfold spec_l1In.f
 by_cases h : b ≤ a <;> simp [h]
theorem iDriftOk_eq (n d : Int) : impl_DriftOk.f n d = some (decide (1 ≤ d ∧ d ≤ 1000000 ∧ 0 ≤ n ∧ 2 * n ≤ d)) := by
 unfold impl_DriftOk.f
 simp only [in_eq, Option.bind_some, decide_eq_true_eq]
 by_cases h : 1 ≤ d ∧ d ≤ 1000000
 ·rw [if_pos h]
  by_cases h2 : 0 ≤ n ∧ n ≤ d
  ·rw [if_pos h2, w64 (by omega) (by omega)]
   simp only [Option.some.injEq, decide_eq_decide]
   omega
  ·rw [if_neg h2]
   simp only [Option.some.injEq]
   exact (decide_eq_false (by omega)).symm
 ·rw [if_neg h]
  simp only [Option.some.injEq]
  exact (decide_eq_false (by omega)).symm
theorem sDriftOk_eq (n d : Int) : spec_DriftOk.f n d = some (decide (1 ≤ d ∧ d ≤ 1000000 ∧ 0 ≤ n ∧ 2 * n ≤ d)) := by
 unfold spec_DriftOk.f
 simp only [l1In_eq, Option.bind_some, decide_eq_true_eq]
 by_cases h : 1 ≤ d ∧ d ≤ 1000000
 ·rw [if_pos h]
  by_cases h2 : 0 ≤ n ∧ n ≤ d
  ·rw [if_pos h2, w64 (by omega) (by omega)]
   simp only [Option.some.injEq, decide_eq_decide]
   omega
  ·rw [if_neg h2]
   simp only [Option.some.injEq]
   exact (decide_eq_false (by omega)).symm
 ·rw [if_neg h]
  simp only [Option.some.injEq]
  exact (decide_eq_false (by omega)).symm
theorem isTime_eq (a : Int) : impl_isTime.f a = some (decide (0 ≤ a ∧ a ≤ 1000000000000)) := by
 unfold impl_isTime.f
 rw [in_eq]
 rfl
theorem l2Time_eq (a : Int) : spec_l2Time.f a = some (decide (0 ≤ a ∧ a ≤ 1000000000000)) := by
 unfold spec_l2Time.f
 rw [l1In_eq]
 rfl
theorem toDrift_eq (a b : Int) : laws_toDrift.f a b = some (a, b) := rfl
theorem eqIval_self (a b : Int) : laws_eqIval.f a b a b = some true := by
 unfold laws_eqIval.f
 simp
theorem l1Max_eq (a b : Int) : spec_l1Max.f a b = some (mx a b) := by
 unfold spec_l1Max.f mx
 by_cases h : a > b
 ·rw [if_pos h, if_neg (by omega)]
 ·rw [if_neg h]
  by_cases h2 : a < b
  ·rw [if_pos h2]
  ·rw [if_neg h2]
   have : a = b := by omega
   rw [this]
theorem l1Min_eq (a b : Int) : spec_l1Min.f a b = some (mn a b) := by
 unfold spec_l1Min.f mn
 by_cases h : a < b
 ·rw [if_pos h, if_neg (by omega)]
 ·rw [if_neg h]
  by_cases h2 : b < a
  ·rw [if_pos h2]
  ·rw [if_neg h2]
   have : a = b := by omega
   rw [this]
theorem fl_unique {a b q : Int} (hb : 0 < b) (h1 : q * b ≤ a) (h2 : a < (q + 1) * b) : a / b = q := by
 have e1 := (Int.le_ediv_iff_mul_le hb).2 h1
 have e2 := (Int.ediv_lt_iff_lt_mul hb).2 h2
 omega
theorem mul_bd {c d A B : Int} (h0 : 0 ≤ c) (h1 : c ≤ A) (h2 : 0 ≤ d) (h3 : d ≤ B) : 0 ≤ c * d ∧ c * d ≤ A * B := ⟨Int.mul_nonneg h0 h2, Int.mul_le_mul h1 h3 h2 (by omega)⟩
theorem ediv_bd {a b : Int} (h : 0 ≤ a) (hb : 0 < b) : 0 ≤ a / b ∧ a / b ≤ a := ⟨Int.ediv_nonneg h (by omega), Int.ediv_le_self b h⟩
theorem downv (a b : Int) (hb : 0 < b) (h0 : -4000000000000000000 ≤ a) (h1 : a ≤ 4000000000000000000) : spec_l1Down.f a b = some (a / b) := by
 unfold spec_l1Down.f
 rw [if_neg (by omega)]
 rcases Int.le_total 0 a with h | h
 ·have hm : 0 ≤ Int.tmod a b := by
   rw [Int.tmod_eq_emod_of_nonneg h]
   exact Int.emod_nonneg _ (by omega)
  obtain ⟨q0, q1⟩ := ediv_bd h hb
  rw [if_neg (by omega), Int.tdiv_eq_ediv_of_nonneg h, w64 (by omega) (by omega)]
 ·obtain ⟨m, rfl⟩ : ∃ m, a = -m := ⟨-a, by omega⟩
  have hm : 0 ≤ m := by omega
  have e1 := Int.emod_nonneg m (show b ≠ 0 by omega)
  have e2 := Int.emod_lt_of_pos m hb
  have e3 := Int.emod_add_mul_ediv m b
  obtain ⟨q0, q1⟩ := ediv_bd hm hb
  rw [Int.neg_tmod, Int.neg_tdiv, Int.tmod_eq_emod_of_nonneg hm, Int.tdiv_eq_ediv_of_nonneg hm]
  generalize m / b = q at *
  generalize m % b = r at *
  have e4 : q * b = b * q := Int.mul_comm _ _
  by_cases c : -r < 0
  ·rw [if_pos c, w64 (x := -q) (by omega) (by omega), w64 (by omega) (by omega)]
   congr 1
   symm
   apply fl_unique hb
   ·rw [Int.sub_mul, Int.neg_mul, Int.one_mul]
    omega
   ·rw [show -q - 1 + 1 = -q by omega, Int.neg_mul]
    omega
  ·rw [if_neg c, w64 (by omega) (by omega)]
   congr 1
   symm
   apply fl_unique hb
   ·rw [Int.neg_mul]
    omega
   ·rw [Int.add_mul, Int.neg_mul, Int.one_mul]
    omega
theorem upv (a b : Int) (hb : 0 < b) (h0 : 0 ≤ a) (h1 : a ≤ 4000000000000000000) : spec_l1Up.f a b = some (-((-a) / b)) := by
 unfold spec_l1Up.f
 rw [w64 (x := -a) (by omega) (by omega), downv _ _ hb (by omega) (by omega)]
 have e0 : -a ≤ -a / b := (Int.le_ediv_iff_mul_le hb).2 (by
  have : -a * b ≤ -a * 1 := Int.mul_le_mul_of_nonpos_left (by omega) (by omega)
  omega)
 have e1 : -a / b < 1 := (Int.ediv_lt_iff_lt_mul hb).2 (by omega)
 simp only [Option.bind_some]
 rw [w64 (by omega) (by omega)]
/-- What may be counted: the bounds. -/
def dOk (n d : Int) : Bool := decide (1 ≤ d ∧ d ≤ 1000000 ∧ 0 ≤ n ∧ 2 * n ≤ d)
def tOk (t : Int) : Bool := decide (0 ≤ t ∧ t ≤ 1000000000000)
def leastT (n d c : Int) : Int := -((-(c * d)) / (d + n))
def mostT (n d c : Int) : Int := c * d / (d - n)
def leastC (n d t : Int) : Int := -((-(t * (d - n))) / d)
def mostC (n d t : Int) : Int := t * (d + n) / d
def tld (b : Bool) (v : Int) : Int × Bool := if b = true ∧ v ≤ 1000000000000 then (v, true) else (0, false)
theorem dOk_iff {n d : Int} : dOk n d = true ↔ 1 ≤ d ∧ d ≤ 1000000 ∧ 0 ≤ n ∧ 2 * n ≤ d := by unfold dOk; exact decide_eq_true_iff
theorem tOk_iff {t : Int} : tOk t = true ↔ 0 ≤ t ∧ t ≤ 1000000000000 := by unfold tOk; exact decide_eq_true_iff
theorem l2Told_eq (v : Int) : spec_l2Told.f v = some (tld true v) := by
 unfold spec_l2Told.f tld
 by_cases c : v > 1000000000000
 ·rw [if_pos c, if_neg (by omega)]
 ·rw [if_neg c, if_pos ⟨rfl, by omega⟩]
theorem idown_eq (a b : Int) : impl_down.f a b = spec_l1Down.f a b := rfl
theorem iup_eq (a b : Int) : impl_up.f a b = spec_l1Up.f a b := by
 unfold impl_up.f spec_l1Up.f
 simp only [idown_eq]
theorem iLeastCount_eq (n d c : Int) : impl_LeastCount.f n d c = some (tld (dOk n d && tOk c) (leastC n d c)) := by
 unfold impl_LeastCount.f impl_LeastCount_1.f
 simp only [iDriftOk_eq, isTime_eq, Option.bind_some, iup_eq]
 change (if dOk n d = true then (if tOk c = true then _ else _) else _) = _
 by_cases c1 : dOk n d = true
 ·rw [if_pos c1]
  by_cases c2 : tOk c = true
  ·rw [if_pos c2]
   have h1 := dOk_iff.1 c1
   have h2 := tOk_iff.1 c2
   have h3 := mul_bd h2.1 h2.2 (show 0 ≤ d - n by omega) (show d - n ≤ 1000000 by omega)
   rw [w64 (x := d - n) (by omega) (by omega), w64 (x := c * (d - n)) (by omega) (by omega), upv _ _ (by omega) h3.1 (by omega), c1, c2]
   simp only [Option.bind_some, Bool.and_self, tld, leastC, true_and]
   split <;> rfl
  ·rw [if_neg c2]
   simp [tld, c2]
 ·rw [if_neg c1]
  simp [tld, c1]
theorem iMostCount_eq (n d c : Int) : impl_MostCount.f n d c = some (tld (dOk n d && tOk c) (mostC n d c)) := by
 unfold impl_MostCount.f impl_MostCount_1.f
 simp only [iDriftOk_eq, isTime_eq, Option.bind_some]
 change (if dOk n d = true then (if tOk c = true then _ else _) else _) = _
 by_cases c1 : dOk n d = true
 ·rw [if_pos c1]
  by_cases c2 : tOk c = true
  ·rw [if_pos c2]
   have h1 := dOk_iff.1 c1
   have h2 := tOk_iff.1 c2
   have h3 := mul_bd h2.1 h2.2 (show 0 ≤ d + n by omega) (show d + n ≤ 2000000 by omega)
   have h4 := ediv_bd h3.1 (show 0 < d by omega)
   rw [w64 (x := d + n) (by omega) (by omega), w64 (x := c * (d + n)) (by omega) (by omega), if_neg (by omega), Int.tdiv_eq_ediv_of_nonneg h3.1, w64 (by omega) (by omega), c1, c2]
   simp only [Option.bind_some, Bool.and_self, tld, mostC, true_and]
   split <;> rfl
  ·rw [if_neg c2]
   simp [tld, c2]
 ·rw [if_neg c1]
  simp [tld, c1]
theorem sLeastCount_eq (k : Nat) (n d c : Int) : spec_LeastCount.f (k + 1) n d c = some (tld (dOk n d && tOk c) (leastC n d c)) := by
 unfold spec_LeastCount.f
 simp only [sDriftOk_eq, l2Time_eq, Option.bind_some, spec_LeastCount.j0, if_true]
 change (if dOk n d = true then (if (!tOk c) = true then _ else _) else _) = _
 by_cases c1 : dOk n d = true
 ·rw [if_pos c1]
  by_cases c2 : tOk c = true
  ·rw [if_neg (by simp [c2])]
   have h1 := dOk_iff.1 c1
   have h2 := tOk_iff.1 c2
   have h3 := mul_bd h2.1 h2.2 (show 0 ≤ d - n by omega) (show d - n ≤ 1000000 by omega)
   rw [w64 (x := d - n) (by omega) (by omega), w64 (x := c * (d - n)) (by omega) (by omega), upv _ _ (by omega) h3.1 (by omega), c1, c2]
   simp only [Option.bind_some, l2Told_eq]
   rfl
  ·rw [if_pos (by simp [c2])]
   simp [tld, c2]
 ·rw [if_neg c1]
  simp [tld, c1]
theorem sMostCount_eq (k : Nat) (n d c : Int) : spec_MostCount.f (k + 1) n d c = some (tld (dOk n d && tOk c) (mostC n d c)) := by
 unfold spec_MostCount.f
 simp only [sDriftOk_eq, l2Time_eq, Option.bind_some, spec_MostCount.j0, if_true]
 change (if dOk n d = true then (if (!tOk c) = true then _ else _) else _) = _
 by_cases c1 : dOk n d = true
 ·rw [if_pos c1]
  by_cases c2 : tOk c = true
  ·rw [if_neg (by simp [c2])]
   have h1 := dOk_iff.1 c1
   have h2 := tOk_iff.1 c2
   have h3 := mul_bd h2.1 h2.2 (show 0 ≤ d + n by omega) (show d + n ≤ 2000000 by omega)
   rw [w64 (x := d + n) (by omega) (by omega), w64 (x := c * (d + n)) (by omega) (by omega), downv _ _ (by omega) (by omega) (by omega), c1, c2]
   simp only [Option.bind_some, l2Told_eq]
   rfl
  ·rw [if_pos (by simp [c2])]
   simp [tld, c2]
 ·rw [if_neg c1]
  simp [tld, c1]

/-- The times of a count. -/
def btw (n d c : Int) : Int × Int × Bool := if (tld (dOk n d && tOk c) (leastT n d c)).2 = true then (if (tld (dOk n d && tOk c) (mostT n d c)).2 = true then ((tld (dOk n d && tOk c) (leastT n d c)).1, (tld (dOk n d && tOk c) (mostT n d c)).1, true) else (0, 0, false)) else (0, 0, false)
/-- The counts of a time. -/
def cts (n d t : Int) : Int × Int × Bool := if (tld (dOk n d && tOk t) (leastC n d t)).2 = true then (if (tld (dOk n d && tOk t) (mostC n d t)).2 = true then ((tld (dOk n d && tOk t) (leastC n d t)).1, (tld (dOk n d && tOk t) (mostC n d t)).1, true) else (0, 0, false)) else (0, 0, false)
theorem icounts_eq (n d t : Int) : impl_counts.f n d t = some (cts n d t) := by
 unfold impl_counts.f impl_both_90_91.f cts
 simp only [iLeastCount_eq, iMostCount_eq, Option.bind_some]
 split
 ·split <;> rfl
 ·rfl
theorem leastT_bd {n d c : Int} (h1 : dOk n d = true) (h2 : tOk c = true) : 0 ≤ leastT n d c ∧ leastT n d c ≤ c := by
 have g1 := dOk_iff.1 h1
 have g2 := tOk_iff.1 h2
 unfold leastT
 have hp := Int.mul_nonneg g2.1 (show 0 ≤ d by omega)
 have hq := Int.mul_nonneg g2.1 g1.2.2.1
 have e0 : -c ≤ -(c * d) / (d + n) := (Int.le_ediv_iff_mul_le (by omega)).2 (by rw [Int.neg_mul, Int.mul_add]; omega)
 have e1 : -(c * d) / (d + n) < 1 := (Int.ediv_lt_iff_lt_mul (by omega)).2 (by omega)
 omega
theorem mostT_bd {n d c : Int} (h1 : dOk n d = true) (h2 : tOk c = true) : c ≤ mostT n d c ∧ mostT n d c ≤ 2 * c := by
 have g1 := dOk_iff.1 h1
 have g2 := tOk_iff.1 h2
 unfold mostT
 have hq := Int.mul_nonneg g2.1 g1.2.2.1
 have hr := Int.mul_nonneg g2.1 (show 0 ≤ d - 2 * n by omega)
 have e0 : c ≤ c * d / (d - n) := (Int.le_ediv_iff_mul_le (by omega)).2 (by rw [Int.mul_sub]; omega)
 have e1 : c * d / (d - n) < 2 * c + 1 := (Int.ediv_lt_iff_lt_mul (by omega)).2 (by
  have e : (2 * c + 1) * (d - n) = c * (d - 2 * n) + c * d + (d - n) := by
   have e5 : c * (2 * n) = 2 * (c * n) := Int.mul_left_comm c 2 n
   rw [Int.add_mul, Int.one_mul, Int.mul_assoc, Int.mul_sub c d n, Int.mul_sub c d (2 * n), e5]
   omega
  rw [e]
  omega)
 omega
theorem leastC_bd {n d t : Int} (h1 : dOk n d = true) (h2 : tOk t = true) : 0 ≤ leastC n d t ∧ leastC n d t ≤ t := by
 have g1 := dOk_iff.1 h1
 have g2 := tOk_iff.1 h2
 unfold leastC
 have hp := Int.mul_nonneg g2.1 (show 0 ≤ d - n by omega)
 have hq := Int.mul_nonneg g2.1 g1.2.2.1
 have e0 : -t ≤ -(t * (d - n)) / d := (Int.le_ediv_iff_mul_le (by omega)).2 (by rw [Int.neg_mul, Int.mul_sub]; omega)
 have e1 : -(t * (d - n)) / d < 1 := (Int.ediv_lt_iff_lt_mul (by omega)).2 (by omega)
 omega
theorem mostC_bd {n d t : Int} (h1 : dOk n d = true) (h2 : tOk t = true) : t ≤ mostC n d t ∧ mostC n d t ≤ 2 * t := by
 have g1 := dOk_iff.1 h1
 have g2 := tOk_iff.1 h2
 unfold mostC
 have hq := Int.mul_nonneg g2.1 g1.2.2.1
 have hr := Int.mul_nonneg g2.1 (show 0 ≤ d - n by omega)
 have e0 : t ≤ t * (d + n) / d := (Int.le_ediv_iff_mul_le (by omega)).2 (by rw [Int.mul_add]; omega)
 have e1 : t * (d + n) / d < 2 * t + 1 := (Int.ediv_lt_iff_lt_mul (by omega)).2 (by
  have e : (2 * t + 1) * d = t * (d + n) + t * (d - n) + d := by
   rw [Int.add_mul, Int.one_mul, Int.mul_assoc, Int.mul_add, Int.mul_sub]
   omega
  rw [e]
  omega)
 omega
theorem tld_true (v : Int) : tld true v = if v ≤ 1000000000000 then (v, true) else (0, false) := by
 unfold tld
 simp
theorem tld_false (v : Int) : tld false v = (0, false) := by
 unfold tld
 simp
theorem cts_in {n d t : Int} (h : (cts n d t).2.2 = true) : dOk n d = true ∧ tOk t = true ∧ (cts n d t).1 = leastC n d t ∧ (cts n d t).2.1 = mostC n d t ∧ mostC n d t ≤ 1000000000000 := by
 unfold cts at h ⊢
 by_cases c : (dOk n d && tOk t) = true
 ·rw [c] at h ⊢
  rw [Bool.and_eq_true] at c
  rw [tld_true, tld_true] at h ⊢
  by_cases c1 : leastC n d t ≤ 1000000000000
  ·rw [if_pos c1] at h ⊢
   by_cases c2 : mostC n d t ≤ 1000000000000
   ·rw [if_pos c2] at h ⊢
    exact ⟨c.1, c.2, by simp, by simp, c2⟩
   ·rw [if_neg c2] at h
    simp at h
  ·rw [if_neg c1] at h
   simp at h
 ·rw [Bool.not_eq_true] at c
  rw [c] at h
  simp [tld_false] at h
theorem ev1 {α : Type} {g : Nat → Option α} {r : α} (h : ∀ k, g (k + 1) = some r) : Ev g r := ⟨1, fun k hk => by obtain ⟨m, rfl⟩ : ∃ m, k = m + 1 := ⟨k - 1, by omega⟩; exact h m⟩

/-- A count of a time. -/
def mayC (n d c t : Int) : Bool := dOk n d && (tOk c && (tOk t && (decide (c * (d - n) ≤ t * d) && decide (t * d ≤ c * (d + n)))))
theorem may_ws {n d c t : Int} (h1 : dOk n d = true) (h2 : tOk c = true) (h3 : tOk t = true) : wrap64 (d - n) = d - n ∧ wrap64 (d + n) = d + n ∧ wrap64 (c * (d - n)) = c * (d - n) ∧ wrap64 (c * (d + n)) = c * (d + n) ∧ wrap64 (t * d) = t * d := by
 have g1 := dOk_iff.1 h1
 have g2 := tOk_iff.1 h2
 have g3 := tOk_iff.1 h3
 have a1 := Int.mul_nonneg g2.1 (show 0 ≤ d - n by omega)
 have a2 := Int.mul_nonneg g2.1 (show 0 ≤ d + n by omega)
 have a3 := Int.mul_nonneg g3.1 (show 0 ≤ d by omega)
 have b1 := Int.mul_le_mul g2.2 (show d - n ≤ 1000000 by omega) (show 0 ≤ d - n by omega) (by omega)
 have b2 := Int.mul_le_mul g2.2 (show d + n ≤ 1500000 by omega) (show 0 ≤ d + n by omega) (by omega)
 have b3 := Int.mul_le_mul g3.2 g1.2.1 (show 0 ≤ d by omega) (by omega)
 exact ⟨w64 (by omega) (by omega), w64 (by omega) (by omega), w64 (by omega) (by omega), w64 (by omega) (by omega), w64 (by omega) (by omega)⟩
abbrev MK := S38
theorem rdM_nat (l : List MK) (i : Nat) (hi : i < l.length) : rd_T38 l (i : Int) = l[i] := by
 unfold rd_T38
 rw [List.getD_eq_getElem?_getD]
 simp [List.getElem?_eq_getElem hi]
theorem rdM_take (l : List MK) (i j : Nat) (hj : j < i) : rd_T38 (l.take i) (j : Int) = rd_T38 l (j : Int) := by
 unfold rd_T38
 rw [List.getD_eq_getElem?_getD, List.getD_eq_getElem?_getD, Int.toNat_natCast, List.getElem?_take_of_lt hj]
/-- All of d naturals from j on. -/
def allF (f : Nat → Bool) : Nat → Nat → Bool
 | 0, _ => true
 | d + 1, j => f j && allF f d (j + 1)
theorem allF_iff (f : Nat → Bool) : ∀ d j, allF f d j = true ↔ ∀ i, j ≤ i → i < j + d → f i = true := by
 intro d
 induction d with
 | zero => intro j; simp only [allF, true_iff]; intro i h1 h2; omega
 | succ d ih =>
  intro j
  rw [allF, Bool.and_eq_true, ih]
  constructor
  ·rintro ⟨h1, h2⟩ i h3 h4
   by_cases c : i = j
   ·rw [c]; exact h1
   ·exact h2 i (by omega) (by omega)
  ·intro h
   exact ⟨h j (Nat.le_refl j) (by omega), fun i h1 h2 => h i (by omega) (by omega)⟩
theorem allF_all (f : Nat → Bool) (d j : Nat) (h : ∀ i, f i = true) : allF f d j = true := (allF_iff f d j).2 fun i _ _ => h i
theorem iMay_eq (n d c t : Int) : impl_MayCount.f n d c t = some (mayC n d c t) := by
 unfold impl_MayCount.f mayC
 simp only [iDriftOk_eq, isTime_eq, Option.bind_some]
 change (if dOk n d = true then (if tOk c = true then (if tOk t = true then _ else _) else _) else _) = _
 by_cases h1 : dOk n d = true
 ·by_cases h2 : tOk c = true
  ·by_cases h3 : tOk t = true
   ·obtain ⟨e1, e2, e3, e4, e5⟩ := may_ws h1 h2 h3
    rw [if_pos h1, if_pos h2, if_pos h3, h1, h2, h3, e1, e2, e3, e4, e5]
    by_cases h4 : c * (d - n) ≤ t * d
    ·rw [if_pos h4]; simp [h4]
    ·rw [if_neg h4]; simp [h4]
   ·rw [if_pos h1, if_pos h2, if_neg h3]; simp [h3]
  ·rw [if_pos h1, if_neg h2]; simp [h2]
 ·rw [if_neg h1]; simp [h1]
theorem sMay_eq (n d c t : Int) : spec_MayCount.f n d c t = some (mayC n d c t) := by
 unfold spec_MayCount.f mayC
 simp only [sDriftOk_eq, l2Time_eq, Option.bind_some]
 change (if dOk n d = true then (if tOk c = true then (if tOk t = true then _ else _) else _) else _) = _
 by_cases h1 : dOk n d = true
 ·by_cases h2 : tOk c = true
  ·by_cases h3 : tOk t = true
   ·obtain ⟨e1, e2, e3, e4, e5⟩ := may_ws h1 h2 h3
    rw [if_pos h1, if_pos h2, if_pos h3, h1, h2, h3, e1, e2, e3, e4, e5]
    by_cases h4 : c * (d - n) ≤ t * d
    ·rw [if_pos (show t * d ≥ c * (d - n) from h4)]; simp [h4]
    ·rw [if_neg (show ¬ t * d ≥ c * (d - n) from h4)]; simp [h4]
   ·rw [if_pos h1, if_pos h2, if_neg h3]; simp [h3]
  ·rw [if_pos h1, if_neg h2]; simp [h2]
 ·rw [if_neg h1]; simp [h1]
def tk (x : MK) : Bool := tOk x.f0 && tOk x.f1
def may2 (n d : Int) (a b : MK) : Bool := mayC n d (wrap64 (b.f0 - a.f0)) (wrap64 (b.f1 - a.f1))
def lenOk (l : List MK) : Bool := decide ((1 : Int) ≤ (l.length : Int) ∧ (l.length : Int) ≤ 201)
/-- What MarksOk and MarksAll tell, by what pairs they look at. -/
def mks (P : Nat → Nat → Bool) (n d : Int) (l : List MK) : Bool := dOk n d && (lenOk l && allF (fun i => tk (rd_T38 l (i : Int)) && allF (fun j => !P j i || may2 n d (rd_T38 l (j : Int)) (rd_T38 l (i : Int))) i 0) l.length 0)
theorem mks_iff (P : Nat → Nat → Bool) (n d : Int) (l : List MK) : mks P n d l = true ↔ dOk n d = true ∧ (1 ≤ l.length ∧ l.length ≤ 201) ∧ (∀ i, i < l.length → tk (rd_T38 l (i : Int)) = true) ∧ ∀ i j, i < l.length → j < i → P j i = true → may2 n d (rd_T38 l (j : Int)) (rd_T38 l (i : Int)) = true := by
 unfold mks lenOk
 rw [Bool.and_eq_true, Bool.and_eq_true, allF_iff, decide_eq_true_iff]
 constructor
 ·rintro ⟨h1, h2, h3⟩
  refine ⟨h1, by omega, fun i hi => ?_, fun i j hi hj hp => ?_⟩
  ·have := h3 i (by omega) (by omega)
   rw [Bool.and_eq_true] at this
   exact this.1
  ·have := h3 i (by omega) (by omega)
   rw [Bool.and_eq_true, allF_iff] at this
   have := this.2 j (by omega) (by omega)
   rw [hp] at this
   simpa using this
 ·rintro ⟨h1, h2, h3, h4⟩
  refine ⟨h1, by omega, fun i hi hj => ?_⟩
  rw [Bool.and_eq_true, allF_iff]
  refine ⟨h3 i (by omega), fun j _ h5 => ?_⟩
  by_cases c : P j i = true
  ·rw [h4 i j (by omega) (by omega) c]
   simp
  ·simp [c]
def pMarksOk (j i : Nat) : Bool := decide (j + 1 = i)
theorem iMarksOk_cb (l : List MK) (i j : Nat) (hj : j < i) (hi : i < l.length) (hl : l.length ≤ 201) : impl_MarksOk_1.f (j : Int) (i : Int) = some (pMarksOk j i) := by
 unfold impl_MarksOk_1.f pMarksOk
 rw [w64 (by omega) (by omega)]
 by_cases c : j + 1 = i
 ·simp only [show (j : Int) + 1 = (i : Int) by omega, c, beq_self_eq_true, decide_true]
 ·simp [c]
  omega
theorem iMarksOk_l1 (l : List MK) (n dd : Int) (hl : l.length ≤ 201) (i : Nat) (hi : i < l.length) (v : Bool) (hv : Ev (fun k => impl_marksOk_46.l0 k l l (l.length : Int) (wrap64 ((i : Int) + 1)) n dd) v) (m0 m1 : Int) (d : Nat) : ∀ j : Nat, j + d = i →
  Ev (fun k => impl_marksOk_46.l1 k l (i : Int) l (l.length : Int) (i : Int) (l.take i) ((l.take i).length : Int) (j : Int) n dd m0 m1) (allF (fun j => !pMarksOk j i || mayC n dd (wrap64 (m0 - (rd_T38 l (j : Int)).f0)) (wrap64 (m1 - (rd_T38 l (j : Int)).f1))) d j && v) := by
 have e : ((l.take i).length : Int) = (i : Int) := by rw [List.length_take]; omega
 rw [e]
 induction d with
 | zero =>
  intro j h
  refine Ev.step (fun k => by simp only [impl_marksOk_46.l1]; rfl) ?_
  simp only [show ¬ ((j : Int) < (i : Int)) by omega, if_false, allF, Bool.true_and]
  exact hv
 | succ d ih =>
  intro j h
  refine Ev.step (fun k => by simp only [impl_marksOk_46.l1]; rfl) ?_
  rw [e]
  simp only [show (j : Int) < (i : Int) by omega, show (0 : Int) ≤ (j : Int) by omega, if_true, iMarksOk_cb l i j (by omega) hi hl, Option.bind_some, iMay_eq]
  rw [rdM_take l i j (by omega), w64 (x := (j : Int) + 1) (by omega) (by omega), allF]
  by_cases c : pMarksOk j i = true
  ·simp only [c, if_true, Bool.not_true, Bool.false_or]
   generalize mayC n dd (wrap64 (m0 - (rd_T38 l (j : Int)).f0)) (wrap64 (m1 - (rd_T38 l (j : Int)).f1)) = b
   by_cases cb : b = true
   ·simp only [cb, if_true, Bool.true_and]
    exact ih (j + 1) (by omega)
   ·rw [Bool.not_eq_true] at cb
    simp only [cb, Bool.false_eq_true, if_false, Bool.false_and]
    exact Ev.now _
  ·rw [Bool.not_eq_true] at c
   simp only [c, Bool.false_eq_true, if_false, Bool.not_false, Bool.true_or, Bool.true_and]
   exact ih (j + 1) (by omega)
theorem iMarksOk_l0 (l : List MK) (n dd : Int) (hl : l.length ≤ 201) (d : Nat) : ∀ i : Nat, i + d = l.length →
  Ev (fun k => impl_marksOk_46.l0 k l l (l.length : Int) (i : Int) n dd) (allF (fun i => tk (rd_T38 l (i : Int)) && allF (fun j => !pMarksOk j i || may2 n dd (rd_T38 l (j : Int)) (rd_T38 l (i : Int))) i 0) d i) := by
 induction d with
 | zero =>
  intro i h
  refine Ev.step (fun k => by simp only [impl_marksOk_46.l0]; rfl) ?_
  simp only [show ¬ ((i : Int) < (l.length : Int)) by omega, if_false, allF]
  exact Ev.now _
 | succ d ih =>
  intro i h
  refine Ev.step (fun k => by simp only [impl_marksOk_46.l0]; rfl) ?_
  simp only [show (i : Int) < (l.length : Int) by omega, show (0 : Int) ≤ (i : Int) by omega, if_true, isTime_eq, Option.bind_some]
  rw [allF]
  unfold tk may2
  have ih' := ih (i + 1) (by omega)
  unfold tk may2 at ih'
  obtain ⟨m, hm⟩ : ∃ m, rd_T38 l (i : Int) = m := ⟨_, rfl⟩
  rw [hm]
  change Ev (fun k => if tOk m.f0 = true then impl_marksOk_46.j2 k l (i : Int) l (l.length : Int) (i : Int) (!tOk m.f1) n dd m.f0 m.f1 else impl_marksOk_46.j2 k l (i : Int) l (l.length : Int) (i : Int) true n dd m.f0 m.f1) _
  by_cases c1 : tOk m.f0 = true
  ·simp only [c1, if_true, Option.bind_some, Bool.true_and]
   refine Ev.step (fun k => by simp only [impl_marksOk_46.j2]; rfl) ?_
   by_cases c2 : tOk m.f1 = true
   ·simp only [c2, Bool.not_true, Bool.false_eq_true, if_false, show (0 : Int) ≤ (i : Int) by omega, show (i : Int) ≤ (l.length : Int) by omega, if_true, Option.bind_some, Int.toNat_natCast, Bool.true_and]
    refine iMarksOk_l1 l n dd hl i (by omega) _ ?_ m.f0 m.f1 i 0 (by omega)
    rw [w64 (by omega) (by omega)]
    exact ih'
   ·rw [Bool.not_eq_true] at c2
    simp only [c2, Bool.not_false, if_true, Bool.false_and]
    exact Ev.now _
  ·rw [Bool.not_eq_true] at c1
   simp only [c1, Bool.false_eq_true, if_false, Bool.false_and]
   refine Ev.step (fun k => by simp only [impl_marksOk_46.j2]; rfl) ?_
   simp only [if_true]
   exact Ev.now _
theorem iMarksOk_ev (l : List MK) (n dd : Int) : Ev (fun k => impl_MarksOk.f k n dd l) (mks pMarksOk n dd l) := by
 unfold impl_MarksOk.f impl_marksOk_46.f mks
 simp only [iDriftOk_eq, in_eq, Option.bind_some]
 refine Ev.bind (a := mks pMarksOk n dd l) ?_ (Ev.now _)
 unfold mks
 change Ev (fun k => if dOk n dd = true then (fun k => impl_marksOk_46.j0 k l (!lenOk l) n dd) k else _) _
 by_cases c1 : dOk n dd = true
 ·simp only [c1, if_true, Bool.true_and]
  refine Ev.step (fun k => by simp only [impl_marksOk_46.j0]; rfl) ?_
  by_cases c2 : lenOk l = true
  ·simp only [c2, Bool.not_true, Bool.false_eq_true, if_false, Bool.true_and]
   have h := decide_eq_true_iff.1 c2
   exact iMarksOk_l0 l n dd (by omega) l.length 0 (by omega)
  ·rw [Bool.not_eq_true] at c2
   simp only [c2, Bool.not_false, if_true, Bool.false_and]
   exact Ev.now _
 ·rw [Bool.not_eq_true] at c1
  simp only [c1, Bool.false_eq_true, if_false, Bool.false_and]
  refine Ev.step (fun k => by simp only [impl_marksOk_46.j0]; rfl) ?_
  simp only [if_true]
  exact Ev.now _
theorem l3Marks_l0 (l : List MK) (hl : l.length ≤ 201) (d : Nat) : ∀ i : Nat, i + d = l.length → Ev (fun k => spec_l3Marks.l0 k l (i : Int)) (allF (fun i => tk (rd_T38 l (i : Int))) d i) := by
 induction d with
 | zero =>
  intro i h
  refine Ev.step (fun k => by simp only [spec_l3Marks.l0]; rfl) ?_
  simp only [show ¬ ((i : Int) < (l.length : Int)) by omega, if_false, allF]
  exact Ev.now _
 | succ d ih =>
  intro i h
  refine Ev.step (fun k => by simp only [spec_l3Marks.l0]; rfl) ?_
  simp only [show (i : Int) < (l.length : Int) by omega, show (0 : Int) ≤ (i : Int) by omega, if_true, l2Time_eq, Option.bind_some]
  rw [allF]
  have ih' := ih (i + 1) (by omega)
  unfold tk at ih' ⊢
  obtain ⟨m, hm⟩ : ∃ m, rd_T38 l (i : Int) = m := ⟨_, rfl⟩
  rw [hm, w64 (by omega) (by omega)]
  change Ev (fun k => if tOk m.f0 = true then (if tOk m.f1 = true then _ else _) else _) _
  by_cases c1 : tOk m.f0 = true
  ·by_cases c2 : tOk m.f1 = true
   ·simp only [c1, c2, if_true, Bool.true_and]
    exact ih'
   ·rw [Bool.not_eq_true] at c2
    simp only [c1, c2, if_true, Bool.false_eq_true, if_false, Bool.false_and, Bool.and_false]
    exact Ev.now _
  ·rw [Bool.not_eq_true] at c1
   simp only [c1, Bool.false_eq_true, if_false, Bool.false_and]
   exact Ev.now _
def mks0 (n d : Int) (l : List MK) : Bool := dOk n d && (lenOk l && allF (fun i => tk (rd_T38 l (i : Int))) l.length 0)
theorem l3Marks_ev (l : List MK) (n dd : Int) : Ev (fun k => spec_l3Marks.f k n dd l) (mks0 n dd l) := by
 unfold spec_l3Marks.f mks0
 simp only [sDriftOk_eq, l1In_eq, Option.bind_some]
 change Ev (fun k => if dOk n dd = true then (fun k => spec_l3Marks.j0 k l (!lenOk l)) k else _) _
 by_cases c1 : dOk n dd = true
 ·simp only [c1, if_true, Bool.true_and]
  refine Ev.step (fun k => by simp only [spec_l3Marks.j0]; rfl) ?_
  by_cases c2 : lenOk l = true
  ·simp only [c2, Bool.not_true, Bool.false_eq_true, if_false, Bool.true_and]
   have h := decide_eq_true_iff.1 c2
   exact l3Marks_l0 l (by omega) l.length 0 (by omega)
  ·rw [Bool.not_eq_true] at c2
   simp only [c2, Bool.not_false, if_true, Bool.false_and]
   exact Ev.now _
 ·rw [Bool.not_eq_true] at c1
  simp only [c1, Bool.false_eq_true, if_false, Bool.false_and]
  refine Ev.step (fun k => by simp only [spec_l3Marks.j0]; rfl) ?_
  simp only [if_true]
  exact Ev.now _
theorem mks0_iff (n d : Int) (l : List MK) : mks0 n d l = true ↔ dOk n d = true ∧ (1 ≤ l.length ∧ l.length ≤ 201) ∧ (∀ i, i < l.length → tk (rd_T38 l (i : Int)) = true) := by
 unfold mks0 lenOk
 rw [Bool.and_eq_true, Bool.and_eq_true, allF_iff, decide_eq_true_iff]
 constructor
 ·rintro ⟨h1, h2, h3⟩
  exact ⟨h1, by omega, fun i hi => h3 i (by omega) (by omega)⟩
 ·rintro ⟨h1, h2, h3⟩
  exact ⟨h1, by omega, fun i _ hi => h3 i (by omega)⟩
theorem l3Two_eq (n d : Int) (a b : MK) : spec_l3Two.f n d a.f0 a.f1 b.f0 b.f1 = some (may2 n d a b) := by
 unfold spec_l3Two.f may2
 rw [sMay_eq]
 rfl
theorem sMarksOk_l0 (l : List MK) (n dd : Int) (hl : l.length ≤ 201) (d : Nat) : ∀ i : Nat, 1 ≤ i → i + d = l.length → Ev (fun k => spec_MarksOk.l0 k l (i : Int) n dd) (allF (fun i => may2 n dd (rd_T38 l ((i - 1 : Nat) : Int)) (rd_T38 l (i : Int))) d i) := by
 induction d with
 | zero =>
  intro i h1 h
  refine Ev.step (fun k => by simp only [spec_MarksOk.l0]; rfl) ?_
  simp only [show ¬ ((i : Int) < (l.length : Int)) by omega, if_false, allF]
  exact Ev.now _
 | succ d ih =>
  intro i h1 h
  refine Ev.step (fun k => by simp only [spec_MarksOk.l0]; rfl) ?_
  rw [w64 (x := (i : Int) - 1) (by omega) (by omega), w64 (x := (i : Int) + 1) (by omega) (by omega), show (i : Int) - 1 = ((i - 1 : Nat) : Int) by omega]
  simp only [show (i : Int) < (l.length : Int) by omega, show (0 : Int) ≤ (i : Int) by omega, show (0 : Int) ≤ ((i - 1 : Nat) : Int) by omega, show ((i - 1 : Nat) : Int) < (l.length : Int) by omega, if_true, l3Two_eq, Option.bind_some]
  rw [allF]
  generalize may2 n dd (rd_T38 l ((i - 1 : Nat) : Int)) (rd_T38 l (i : Int)) = b
  by_cases cb : b = true
  ·simp only [cb, if_true, Bool.true_and]
   exact ih (i + 1) (by omega) (by omega)
  ·rw [Bool.not_eq_true] at cb
   simp only [cb, Bool.false_eq_true, if_false, Bool.false_and]
   exact Ev.now _
theorem sMarksOk_ev (l : List MK) (n dd : Int) : Ev (fun k => spec_MarksOk.f k n dd l) (mks (fun j i => decide (j + 1 = i)) n dd l) := by
 unfold spec_MarksOk.f
 refine Ev.bind (l3Marks_ev l n dd) ?_
 by_cases c : mks0 n dd l = true
 ·simp only [c, if_true]
  have h := (mks0_iff n dd l).1 c
  have := sMarksOk_l0 l n dd h.2.1.2 (l.length - 1) 1 (by omega) (by omega)
  have e : mks (fun j i => decide (j + 1 = i)) n dd l = allF (fun i => may2 n dd (rd_T38 l ((i - 1 : Nat) : Int)) (rd_T38 l (i : Int))) (l.length - 1) 1 := by
   rw [Bool.eq_iff_iff, mks_iff, allF_iff]
   constructor
   ·intro h2 i h3 h4
    exact h2.2.2.2 i (i - 1) (by omega) (by omega) (by simp; omega)
   ·intro h2
    refine ⟨h.1, h.2.1, h.2.2, fun i j h3 h4 h5 => ?_⟩
    have h6 := of_decide_eq_true h5
    have := h2 i (by omega) (by omega)
    rw [← h6] at this ⊢
    exact this
  rw [e]
  exact this
 ·have e : mks (fun j i => decide (j + 1 = i)) n dd l = false := by
   rw [Bool.eq_false_iff]
   intro h
   have h2 := (mks_iff _ n dd l).1 h
   exact c ((mks0_iff n dd l).2 ⟨h2.1, h2.2.1, h2.2.2.1⟩)
  simp only [c, if_false, e]
  exact Ev.now _
theorem toMark_eq (a b : Int) : laws_toMark.f a b = some (a, b) := rfl
theorem eqMark_self (a b : Int) : laws_eqMark.f a b a b = some true := by
 unfold laws_eqMark.f
 simp
theorem rdLM_nat (l : List S69) (i : Nat) (hi : i < l.length) : rd_T69 l (i : Int) = l[i] := by
 unfold rd_T69
 rw [List.getD_eq_getElem?_getD]
 simp [List.getElem?_eq_getElem hi]
def cvM (x : S69) : MK := ⟨x.f0, x.f1⟩
theorem cvM_set (l : List S69) (i : Nat) (h : i < l.length) (z : MK) : ((l.take i).map cvM ++ List.replicate (l.length - i) z).set i (cvM l[i]) = (l.take (i + 1)).map cvM ++ List.replicate (l.length - (i + 1)) z := by
 have e : l.length - i = (l.length - (i + 1)) + 1 := by omega
 have e2 : ((l.take i).map cvM).length = i := by rw [List.length_map, List.length_take]; omega
 rw [e, List.replicate_succ, List.set_append_right _ _ (by omega), e2, Nat.sub_self, List.set_cons_zero, List.take_succ_eq_append_getElem h, List.map_append, List.append_assoc]
 rfl
theorem toMarkS_l0 (l : List S69) (hl : l.length ≤ 9223372036854775806) (z : MK) (d : Nat) : ∀ i : Nat, i + d = l.length → Ev (fun k => laws_toMarkS.l0 k l ((l.take i).map cvM ++ List.replicate (l.length - i) z) i) (l.map cvM) := by
 induction d with
 | zero =>
  intro i hi
  refine Ev.step (fun k => by simp only [laws_toMarkS.l0]; rfl) ?_
  simp only [show ¬ ((i : Int) < (l.length : Int)) by omega, if_false]
  rw [List.take_of_length_le (by omega), show l.length - i = 0 by omega]
  simpa using Ev.now (l.map cvM)
 | succ d ih =>
  intro i hi
  refine Ev.step (fun k => by simp only [laws_toMarkS.l0]; rfl) ?_
  have hlen : ((l.take i).map cvM ++ List.replicate (l.length - i) z).length = l.length := by
   rw [List.length_append, List.length_map, List.length_take, List.length_replicate]
   omega
  rw [hlen]
  simp only [show (i : Int) < (l.length : Int) by omega, show (0 : Int) ≤ (i : Int) by omega, if_true, Int.toNat_natCast, toMark_eq, Option.bind_some]
  rw [rdLM_nat l i (by omega), w64 (by omega) (by omega)]
  have := ih (i + 1) (by omega)
  rw [← cvM_set l i (by omega) z] at this
  exact this
theorem toMarkS_ev (l : List S69) (hl : l.length ≤ 1048576) : Ev (fun k => laws_toMarkS.f k l) (l.map cvM) := by
 unfold laws_toMarkS.f
 simp only [show (0 : Int) ≤ (l.length : Int) by omega, Int.toNat_natCast, show l.length ≤ 17592186044416 by omega, if_true]
 have := toMarkS_l0 l (by omega) z38 l.length 0 (by omega)
 simpa using this
theorem eqMarkS_l0 (l : List MK) (hl : l.length ≤ 9223372036854775806) (d : Nat) : ∀ i : Nat, i + d = l.length → Ev (fun k => laws_eqMarkS.l0 k l l i) true := by
 induction d with
 | zero =>
  intro i hi
  refine Ev.step (fun k => by simp only [laws_eqMarkS.l0]; rfl) ?_
  simp only [show ¬ ((i : Int) < (l.length : Int)) by omega, if_false]
  exact Ev.now true
 | succ d ih =>
  intro i hi
  refine Ev.step (fun k => by simp only [laws_eqMarkS.l0]; rfl) ?_
  simp only [show (i : Int) < (l.length : Int) by omega, show (0 : Int) ≤ (i : Int) by omega, if_true, eqMark_self, Option.bind_some]
  rw [w64 (by omega) (by omega)]
  exact ih (i + 1) (by omega)
theorem eqMarkS_ev (l : List MK) (hl : l.length ≤ 9223372036854775806) : Ev (fun k => laws_eqMarkS.f k l l) true := by
 unfold laws_eqMarkS.f
 simp only [if_true]
 exact eqMarkS_l0 l hl l.length 0 (by omega)

theorem ev_if {α : Type} {c : Prop} [Decidable c] {f g : Nat → Option α} {r : α} (hc : c) (h : Ev f r) : Ev (fun k => if c then f k else g k) r := by
 simp only [hc, if_true]
 exact h
theorem ev_ifn {α : Type} {c : Prop} [Decidable c] {f g : Nat → Option α} {r : α} (hc : ¬ c) (h : Ev g r) : Ev (fun k => if c then f k else g k) r := by
 simp only [hc, if_false]
 exact h
theorem ev2 {α : Type} {g : Nat → Option α} {r : α} (h : ∀ k, g (k + 2) = some r) : Ev g r := ⟨2, fun k hk => by obtain ⟨m, rfl⟩ : ∃ m, k = m + 2 := ⟨k - 2, by omega⟩; exact h m⟩
theorem ev_ite {α : Type} {c : Prop} [Decidable c] {f g : Nat → Option α} {x y : α} (h1 : c → Ev f x) (h2 : ¬ c → Ev g y) : Ev (fun k => if c then f k else g k) (if c then x else y) := by
 by_cases h : c
 ·simp only [h, if_true]
  exact h1 h
 ·simp only [h, if_false]
  exact h2 h
theorem timeOf_eq (a b : Int) : impl_timeOf.f a b = some a := rfl
theorem countOf_eq (a b : Int) : impl_countOf.f a b = some b := rfl
theorem timeOf_ev (a b : Int) : Ev (fun _ => impl_timeOf.f a b) a := by rw [timeOf_eq]; exact Ev.now a
theorem countOf_ev (a b : Int) : Ev (fun _ => impl_countOf.f a b) b := by rw [countOf_eq]; exact Ev.now b
def wFin (lo hi : Int) : Int × Int × Bool := if lo > hi then (0, 0, false) else (lo, hi, true)
theorem fin_ev (lo hi : Int) : Ev (fun _ => if lo > hi then some ((0, 0, false) : Int × Int × Bool) else some (lo, hi, true)) (wFin lo hi) := by
 unfold wFin
 exact ev_ite (fun _ => Ev.now _) (fun _ => Ev.now _)
/-- How far the marks go on that are at most x. -/
def wIx (g : MK → Int) (l : List MK) (x : Int) : Nat → Nat → Nat
 | 0, i => i
 | d + 1, i => if i + 1 < l.length ∧ g (rd_T38 l ((i + 1 : Nat) : Int)) ≤ x then wIx g l x d (i + 1) else i
/-- What follows behind the range at the mark. -/
def wGo (R : Int → Int × Int × Bool) (g a : MK → Int) (l : List MK) (x : Int) (i : Nat) (L M : Int) : Int × Int × Bool :=
 if i + 1 < l.length then
  (if (R (g (rd_T38 l ((i + 1 : Nat) : Int)) - x)).2.2 = true then
   wFin (mx (a (rd_T38 l (i : Int)) + L) (a (rd_T38 l ((i + 1 : Nat) : Int)) - (R (g (rd_T38 l ((i + 1 : Nat) : Int)) - x)).2.1)) (mn (a (rd_T38 l (i : Int)) + M) (a (rd_T38 l ((i + 1 : Nat) : Int)) - (R (g (rd_T38 l ((i + 1 : Nat) : Int)) - x)).1))
  else (0, 0, false))
 else wFin (a (rd_T38 l (i : Int)) + L) (a (rd_T38 l (i : Int)) + M)
def wAt (R : Int → Int × Int × Bool) (g a : MK → Int) (l : List MK) (x : Int) (i : Nat) : Int × Int × Bool :=
 if (R (x - g (rd_T38 l (i : Int)))).2.2 = true then wGo R g a l x i (R (x - g (rd_T38 l (i : Int)))).1 (R (x - g (rd_T38 l (i : Int)))).2.1 else (0, 0, false)
def whenR (R : Int → Int × Int × Bool) (g a : MK → Int) (n d : Int) (l : List MK) (x : Int) : Int × Int × Bool :=
 if mks (fun j i => decide (j + 1 = i)) n d l = true then
  (if g (rd_T38 l 0) ≤ x ∧ x ≤ g (rd_T38 l ((l.length - 1 : Nat) : Int)) then wAt R g a l x (wIx g l x l.length 0) else (0, 0, false))
 else (0, 0, false)
theorem wIx_bd (g : MK → Int) (l : List MK) (x : Int) (d : Nat) : ∀ i, i < l.length → i ≤ wIx g l x d i ∧ wIx g l x d i < l.length := by
 induction d with
 | zero => exact fun i h => ⟨Nat.le_refl i, h⟩
 | succ d ih =>
  intro i h
  rw [wIx]
  split
  ·next c =>
   have := ih (i + 1) c.1
   omega
  ·omega
theorem wIx_le (g : MK → Int) (l : List MK) (x : Int) (d : Nat) : ∀ i, (∀ j : Nat, j ≤ i → g (rd_T38 l (j : Int)) ≤ x) → ∀ j : Nat, j ≤ wIx g l x d i → g (rd_T38 l (j : Int)) ≤ x := by
 induction d with
 | zero => exact fun i h => h
 | succ d ih =>
  intro i h
  rw [wIx]
  split
  ·next c =>
   refine ih (i + 1) (fun j hj => ?_)
   by_cases e : j = i + 1
   ·rw [e]
    exact c.2
   ·exact h j (by omega)
  ·exact h
theorem wIx_end (g : MK → Int) (l : List MK) (x : Int) (d : Nat) : ∀ i, i < l.length → l.length ≤ i + d → wIx g l x d i + 1 = l.length ∨ x < g (rd_T38 l ((wIx g l x d i + 1 : Nat) : Int)) := by
 induction d with
 | zero =>
  intro i h h2
  omega
 | succ d ih =>
  intro i h h2
  rw [wIx]
  split
  ·next c => exact ih (i + 1) c.1 (by omega)
  ·next c =>
   by_cases e : i + 1 = l.length
   ·exact .inl e
   ·refine .inr ?_
    have : ¬ g (rd_T38 l ((i + 1 : Nat) : Int)) ≤ x := fun hh => c ⟨by omega, hh⟩
    omega
theorem mk_bd {n d : Int} {l : List MK} (h : mks (fun j i => decide (j + 1 = i)) n d l = true) (i : Nat) (hi : i < l.length) : (0 ≤ (rd_T38 l (i : Int)).f0 ∧ (rd_T38 l (i : Int)).f0 ≤ 1000000000000) ∧ 0 ≤ (rd_T38 l (i : Int)).f1 ∧ (rd_T38 l (i : Int)).f1 ≤ 1000000000000 := by
 have := ((mks_iff _ _ _ _).1 h).2.2.1 i hi
 unfold tk at this
 rw [Bool.and_eq_true, tOk_iff, tOk_iff] at this
 exact this
theorem mk_step {n d : Int} {l : List MK} (h : mks (fun j i => decide (j + 1 = i)) n d l = true) (i : Nat) (hi : i + 1 < l.length) : (rd_T38 l (i : Int)).f0 ≤ (rd_T38 l ((i + 1 : Nat) : Int)).f0 ∧ (rd_T38 l (i : Int)).f1 ≤ (rd_T38 l ((i + 1 : Nat) : Int)).f1 := by
 have := ((mks_iff _ _ _ _).1 h).2.2.2 (i + 1) i hi (by omega) (by simp)
 have b1 := mk_bd h i (by omega)
 have b2 := mk_bd h (i + 1) hi
 unfold may2 mayC at this
 rw [w64 (by omega) (by omega), w64 (by omega) (by omega), Bool.and_eq_true, Bool.and_eq_true, Bool.and_eq_true, tOk_iff, tOk_iff] at this
 omega
theorem mk_mono0 {n d : Int} {l : List MK} (h : mks (fun j i => decide (j + 1 = i)) n d l = true) (i : Nat) (q : Nat) : i + q < l.length → (rd_T38 l (i : Int)).f0 ≤ (rd_T38 l ((i + q : Nat) : Int)).f0 ∧ (rd_T38 l (i : Int)).f1 ≤ (rd_T38 l ((i + q : Nat) : Int)).f1 := by
 induction q with
 | zero => exact fun _ => ⟨Int.le_refl _, Int.le_refl _⟩
 | succ q ih =>
  intro hq
  have h1 := ih (by omega)
  have h2 := mk_step h (i + q) (by omega)
  rw [show i + (q + 1) = i + q + 1 from rfl]
  omega
theorem cts_cases (n d t : Int) : ((tld (dOk n d && tOk t) (leastC n d t)).2 = true ∧ (tld (dOk n d && tOk t) (mostC n d t)).2 = true ∧ cts n d t = ((tld (dOk n d && tOk t) (leastC n d t)).1, (tld (dOk n d && tOk t) (mostC n d t)).1, true)) ∨ (¬ ((tld (dOk n d && tOk t) (leastC n d t)).2 = true ∧ (tld (dOk n d && tOk t) (mostC n d t)).2 = true) ∧ cts n d t = (0, 0, false)) := by
 unfold cts
 by_cases p : (tld (dOk n d && tOk t) (leastC n d t)).2 = true
 ·by_cases q : (tld (dOk n d && tOk t) (mostC n d t)).2 = true
  ·exact .inl ⟨p, q, by rw [if_pos p, if_pos q]⟩
  ·exact .inr ⟨fun h => q h.2, by rw [if_pos p, if_neg q]⟩
 ·exact .inr ⟨fun h => p h.1, by rw [if_neg p]⟩
theorem cts_bd {n d t : Int} (h : (cts n d t).2.2 = true) : (0 ≤ (cts n d t).1 ∧ (cts n d t).1 ≤ 1000000000000) ∧ 0 ≤ (cts n d t).2.1 ∧ (cts n d t).2.1 ≤ 1000000000000 := by
 obtain ⟨h1, h2, e1, e2, h3⟩ := cts_in h
 have b1 := leastC_bd h1 h2
 have b2 := mostC_bd h1 h2
 have b3 := tOk_iff.1 h2
 omega
theorem sCw_j2 {n d : Int} {l : List MK} (h : mks (fun j i => decide (j + 1 = i)) n d l = true) (x : Int) (hx : 0 ≤ x ∧ x ≤ 1000000000000) (i : Nat) (hi : i < l.length) (L M : Int) (hL : 0 ≤ L ∧ L ≤ 1000000000000) (hM : 0 ≤ M ∧ M ≤ 1000000000000) :
  Ev (fun k => spec_CountWhen.j2 k l x (i : Int) L M false n d) (wGo (cts n d) (fun m => m.f0) (fun m => m.f1) l x i L M) := by
 have b1 := mk_bd h i hi
 have hl := ((mks_iff _ _ _ _).1 h).2.1
 refine Ev.step (fun k => by simp only [spec_CountWhen.j2]; rfl) ?_
 refine ev_ifn (by decide) (ev_if (by omega) (ev_if (by omega) ?_))
 rw [w64 (x := (i : Int) + 1) (by omega) (by omega), w64 (x := (rd_T38 l (i : Int)).f1 + L) (by omega) (by omega), w64 (x := (rd_T38 l (i : Int)).f1 + M) (by omega) (by omega)]
 unfold wGo
 by_cases c : i + 1 < l.length
 ·rw [if_pos c]
  have b2 := mk_bd h (i + 1) c
  rw [show ((i : Int) + 1) = ((i + 1 : Nat) : Int) by omega]
  refine ev_if (by omega) (ev_if (by omega) ?_)
  rw [w64 (x := (rd_T38 l ((i + 1 : Nat) : Int)).f0 - x) (by omega) (by omega)]
  refine Ev.bind (ev1 (fun k => sLeastCount_eq k n d _)) (Ev.bind (ev1 (fun k => sMostCount_eq k n d _)) ?_)
  have hb := @cts_bd n d ((rd_T38 l ((i + 1 : Nat) : Int)).f0 - x)
  rcases cts_cases n d ((rd_T38 l ((i + 1 : Nat) : Int)).f0 - x) with ⟨p, q, e⟩ | ⟨hn, e⟩
  ·simp only [e] at hb ⊢
   have hb2 := hb (by trivial)
   rw [if_pos (by trivial)]
   refine ev_if p ?_
   rw [q]
   refine Ev.step (fun k => by simp only [spec_CountWhen.j3]; rfl) ?_
   refine ev_ifn (by decide) ?_
   rw [w64 (by omega) (by omega), w64 (by omega) (by omega)]
   simp only [l1Max_eq, l1Min_eq, Option.bind_some]
   exact fin_ev _ _
  ·simp only [e]
   rw [if_neg (by decide)]
   by_cases p : (tld (dOk n d && tOk ((rd_T38 l ((i + 1 : Nat) : Int)).f0 - x)) (leastC n d ((rd_T38 l ((i + 1 : Nat) : Int)).f0 - x))).2 = true
   ·refine ev_if p ?_
    have q : (tld (dOk n d && tOk ((rd_T38 l ((i + 1 : Nat) : Int)).f0 - x)) (mostC n d ((rd_T38 l ((i + 1 : Nat) : Int)).f0 - x))).2 = false := by
     rw [← Bool.not_eq_true]
     exact fun hq => hn ⟨p, hq⟩
    rw [q]
    refine Ev.step (fun k => by simp only [spec_CountWhen.j3]; rfl) ?_
    exact ev_if (by decide) (Ev.now _)
   ·refine ev_ifn p ?_
    refine Ev.step (fun k => by simp only [spec_CountWhen.j3]; rfl) ?_
    exact ev_if (by trivial) (Ev.now _)
 ·rw [if_neg c]
  exact ev_ifn (by omega) (fin_ev _ _)
theorem sCw_at {n d : Int} {l : List MK} (h : mks (fun j i => decide (j + 1 = i)) n d l = true) (x : Int) (hx : 0 ≤ x ∧ x ≤ 1000000000000) (i : Nat) (hi : i < l.length) :
  Ev (fun k => spec_CountWhen.l0 k l x (i : Int) (l.length : Int) n d) (wAt (cts n d) (fun m => m.f0) (fun m => m.f1) l x i) := by
 have b1 := mk_bd h i hi
 refine Ev.step (fun k => by simp only [spec_CountWhen.l0]; rfl) ?_
 refine ev_ifn (by omega) (ev_if (by omega) (ev_if (by omega) ?_))
 rw [w64 (x := x - (rd_T38 l (i : Int)).f0) (by omega) (by omega)]
 refine Ev.bind (ev1 (fun k => sLeastCount_eq k n d _)) (Ev.bind (ev1 (fun k => sMostCount_eq k n d _)) ?_)
 unfold wAt
 have hb := @cts_bd n d (x - (rd_T38 l (i : Int)).f0)
 rcases cts_cases n d (x - (rd_T38 l (i : Int)).f0) with ⟨p, q, e⟩ | ⟨hn, e⟩
 ·simp only [e] at hb ⊢
  have hb2 := hb (by trivial)
  rw [if_pos (by trivial)]
  refine ev_if p ?_
  rw [q]
  exact sCw_j2 h x hx i hi _ _ hb2.1 hb2.2
 ·simp only [e]
  rw [if_neg (by decide)]
  by_cases p : (tld (dOk n d && tOk (x - (rd_T38 l (i : Int)).f0)) (leastC n d (x - (rd_T38 l (i : Int)).f0))).2 = true
  ·refine ev_if p ?_
   have q : (tld (dOk n d && tOk (x - (rd_T38 l (i : Int)).f0)) (mostC n d (x - (rd_T38 l (i : Int)).f0))).2 = false := by
    rw [← Bool.not_eq_true]
    exact fun hq => hn ⟨p, hq⟩
   rw [q]
   refine Ev.step (fun k => by simp only [spec_CountWhen.j2]; rfl) ?_
   exact ev_if (by decide) (Ev.now _)
  ·refine ev_ifn p ?_
   refine Ev.step (fun k => by simp only [spec_CountWhen.j2]; rfl) ?_
   exact ev_if (by trivial) (Ev.now _)
theorem sCw_l0 {n d : Int} {l : List MK} (h : mks (fun j i => decide (j + 1 = i)) n d l = true) (x : Int) (hx : 0 ≤ x ∧ x ≤ 1000000000000) (N : Nat) (hN : N < l.length) (hle : ∀ j : Nat, j ≤ N → (rd_T38 l (j : Int)).f0 ≤ x) (hgt : ∀ j : Nat, N < j → j < l.length → x < (rd_T38 l (j : Int)).f0) (q : Nat) :
  ∀ (j a : Nat), j + q = l.length → (j ≤ N ∨ a = N) → Ev (fun k => spec_CountWhen.l0 k l x (a : Int) (j : Int) n d) (wAt (cts n d) (fun m => m.f0) (fun m => m.f1) l x N) := by
 have hl := ((mks_iff _ _ _ _).1 h).2.1
 induction q with
 | zero =>
  intro j a hj ha
  have : a = N := by omega
  subst this
  rw [show j = l.length by omega]
  exact sCw_at h x hx a hN
 | succ q ih =>
  intro j a hj ha
  refine Ev.step (fun k => by simp only [spec_CountWhen.l0]; rfl) ?_
  refine ev_if (by omega) (ev_if (by omega) ?_)
  rw [w64 (x := (j : Int) + 1) (by omega) (by omega), show ((j : Int) + 1) = ((j + 1 : Nat) : Int) by omega]
  by_cases c : (rd_T38 l (j : Int)).f0 ≤ x
  ·refine ev_if c ?_
   have hjN : j ≤ N := by
    rcases Nat.lt_or_ge N j with h1 | h1
    ·have := hgt j h1 (by omega)
     omega
    ·exact h1
   exact ih (j + 1) j (by omega) (by omega)
  ·refine ev_ifn c ?_
   have hjN : N < j := by
    rcases Nat.lt_or_ge N j with h1 | h1
    ·exact h1
    ·exact absurd (hle j h1) c
   exact ih (j + 1) a (by omega) (by omega)
theorem sCountWhen_ev (n d : Int) (l : List MK) (x : Int) : Ev (fun k => spec_CountWhen.f k n d l x) (whenR (cts n d) (fun m => m.f0) (fun m => m.f1) n d l x) := by
 unfold spec_CountWhen.f whenR
 refine Ev.bind (sMarksOk_ev l n d) ?_
 by_cases h : mks (fun j i => decide (j + 1 = i)) n d l = true
 ·simp only [if_pos h]
  have hl := ((mks_iff _ _ _ _).1 h).2.1
  have b0 := mk_bd h 0 (by omega)
  have b1 := mk_bd h (l.length - 1) (by omega)
  have z0 : rd_T38 l ((0 : Nat) : Int) = rd_T38 l 0 := rfl
  rw [z0] at b0
  have j0t : ∀ R : Int × Int × Bool, R = (0, 0, false) → Ev (fun k => spec_CountWhen.j0 k l x true n d) R := fun R hR => by
   rw [hR]
   exact Ev.step (fun k => by simp only [spec_CountWhen.j0]; rfl) (ev_if (by trivial) (Ev.now _))
  refine ev_if (by omega) ?_
  rw [w64 (x := (l.length : Int) - 1) (by omega) (by omega), show (l.length : Int) - 1 = ((l.length - 1 : Nat) : Int) by omega]
  by_cases c0 : x < (rd_T38 l 0).f0
  ·refine ev_if c0 (j0t _ ?_)
   rw [if_neg (by omega)]
  ·refine ev_ifn c0 (ev_if (by omega) (ev_if (by omega) ?_))
   by_cases c1 : x > (rd_T38 l ((l.length - 1 : Nat) : Int)).f0
   ·rw [show decide (x > (rd_T38 l ((l.length - 1 : Nat) : Int)).f0) = true from decide_eq_true c1]
    refine j0t _ ?_
    rw [if_neg (by omega)]
   ·rw [show decide (x > (rd_T38 l ((l.length - 1 : Nat) : Int)).f0) = false from decide_eq_false c1, if_pos (by omega)]
    refine Ev.step (fun k => by simp only [spec_CountWhen.j0]; rfl) (ev_ifn (by decide) ?_)
    have hb := wIx_bd (fun m => m.f0) l x l.length 0 (by omega)
    have hle := wIx_le (fun m => m.f0) l x l.length 0 (fun j hj => by
     rw [show j = 0 by omega, z0]
     show (rd_T38 l 0).f0 ≤ x
     omega)
    have hend := wIx_end (fun m => m.f0) l x l.length 0 (by omega) (by omega)
    generalize wIx (fun m => m.f0) l x l.length 0 = N at *
    refine sCw_l0 h x (by omega) N hb.2 hle (fun j h1 h2 => ?_) l.length 0 0 (by omega) (by omega)
    rcases hend with e | e
    ·omega
    ·have := mk_mono0 h (N + 1) (j - (N + 1)) (by omega)
     rw [show N + 1 + (j - (N + 1)) = j by omega] at this
     have e2 : x < (rd_T38 l ((N + 1 : Nat) : Int)).f0 := e
     omega
 ·simp only [if_neg h]
  exact Ev.step (fun k => by simp only [spec_CountWhen.j0]; rfl) (ev_if (by trivial) (Ev.now _))
theorem iCw_j6 (lo hi : Int) : Ev (fun k => impl_between_60_61_62.j6 k lo hi) (wFin lo hi) :=
 Ev.step (fun k => by simp only [impl_between_60_61_62.j6]) (fin_ev lo hi)
theorem iCw_j5 (A B f0 f1 u v : Int) (h1 : 0 ≤ f1 ∧ f1 ≤ 1000000000000) (hu : 0 ≤ u ∧ u ≤ 1000000000000) (hv : 0 ≤ v ∧ v ≤ 1000000000000) : Ev (fun k => impl_between_60_61_62.j5 k A B f0 f1 u v) (wFin (mx A (f1 - v)) (mn B (f1 - u))) := by
 refine Ev.step (fun k => by simp only [impl_between_60_61_62.j5]; rfl) ?_
 simp only [countOf_eq, Option.bind_some]
 rw [w64 (x := f1 - v) (by omega) (by omega), w64 (x := f1 - u) (by omega) (by omega)]
 exact iCw_j6 _ _
theorem iCw_j4 {n d : Int} {l : List MK} (h : mks (fun j i => decide (j + 1 = i)) n d l = true) (x : Int) (hx : 0 ≤ x ∧ x ≤ 1000000000000) (i : Nat) (hi : i < l.length) (L M : Int) (hL : 0 ≤ L ∧ L ≤ 1000000000000) (hM : 0 ≤ M ∧ M ≤ 1000000000000) :
  Ev (fun k => impl_between_60_61_62.j4 k l x (i : Int) n d L M) (wGo (cts n d) (fun m => m.f0) (fun m => m.f1) l x i L M) := by
 have b1 := mk_bd h i hi
 have hl := ((mks_iff _ _ _ _).1 h).2.1
 refine Ev.step (fun k => by simp only [impl_between_60_61_62.j4]; rfl) ?_
 refine ev_if (by omega) (ev_if (by omega) ?_)
 refine Ev.bind (countOf_ev _ _) (Ev.bind (countOf_ev _ _) ?_)
 rw [w64 (x := (i : Int) + 1) (by omega) (by omega), w64 (x := (rd_T38 l (i : Int)).f1 + L) (by omega) (by omega), w64 (x := (rd_T38 l (i : Int)).f1 + M) (by omega) (by omega)]
 unfold wGo
 by_cases c : i + 1 < l.length
 ·rw [if_pos c]
  have b2 := mk_bd h (i + 1) c
  rw [show ((i : Int) + 1) = ((i + 1 : Nat) : Int) by omega]
  refine ev_if (by omega) (ev_if (by omega) (Ev.bind (timeOf_ev _ _) ?_))
  rw [w64 (x := (rd_T38 l ((i + 1 : Nat) : Int)).f0 - x) (by omega) (by omega)]
  refine Ev.bind (by rw [icounts_eq]; exact Ev.now _) ?_
  have hb := @cts_bd n d ((rd_T38 l ((i + 1 : Nat) : Int)).f0 - x)
  by_cases cc : (cts n d ((rd_T38 l ((i + 1 : Nat) : Int)).f0 - x)).2.2 = true
  ·have hb2 := hb cc
   rw [if_pos cc]
   refine ev_if cc ?_
   exact iCw_j5 _ _ _ _ _ _ b2.2 hb2.1 hb2.2
  ·rw [if_neg cc]
   exact ev_ifn cc (Ev.now _)
 ·rw [if_neg c]
  exact ev_ifn (by omega) (iCw_j6 _ _)
theorem iCw_l0 {n d : Int} {l : List MK} (h : mks (fun j i => decide (j + 1 = i)) n d l = true) (x : Int) (hx : 0 ≤ x ∧ x ≤ 1000000000000) (q : Nat) : ∀ i : Nat, i < l.length → l.length ≤ i + q →
  Ev (fun k => impl_between_60_61_62.l0 k l x (i : Int) n d) (wAt (cts n d) (fun m => m.f0) (fun m => m.f1) l x (wIx (fun m => m.f0) l x q i)) := by
 have hl := ((mks_iff _ _ _ _).1 h).2.1
 have stop : ∀ i : Nat, i < l.length → Ev (fun k => impl_between_60_61_62.j3 k l x (i : Int) n d) (wAt (cts n d) (fun m => m.f0) (fun m => m.f1) l x i) := by
  intro i hi
  have b1 := mk_bd h i hi
  refine Ev.step (fun k => by simp only [impl_between_60_61_62.j3]; rfl) ?_
  refine ev_if (by omega) (ev_if (by omega) ?_)
  refine Ev.bind (timeOf_ev _ _) ?_
  rw [w64 (x := x - (rd_T38 l (i : Int)).f0) (by omega) (by omega)]
  refine Ev.bind (by rw [icounts_eq]; exact Ev.now _) ?_
  unfold wAt
  have hb := @cts_bd n d (x - (rd_T38 l (i : Int)).f0)
  by_cases cc : (cts n d (x - (rd_T38 l (i : Int)).f0)).2.2 = true
  ·have hb2 := hb cc
   rw [if_pos cc]
   exact ev_if cc (iCw_j4 h x hx i hi _ _ hb2.1 hb2.2)
  ·rw [if_neg cc]
   exact ev_ifn cc (Ev.now _)
 induction q with
 | zero =>
  intro i h1 h2
  omega
 | succ q ih =>
  intro i h1 h2
  refine Ev.step (fun k => by simp only [impl_between_60_61_62.l0]; rfl) ?_
  rw [w64 (x := (i : Int) + 1) (by omega) (by omega), show ((i : Int) + 1) = ((i + 1 : Nat) : Int) by omega, wIx]
  by_cases c : i + 1 < l.length
  ·refine ev_if (by omega) (ev_if (by omega) ?_)
   refine Ev.bind (timeOf_ev _ _) ?_
   by_cases cx : (rd_T38 l ((i + 1 : Nat) : Int)).f0 ≤ x
   ·rw [if_pos ⟨c, cx⟩]
    refine ev_if cx ?_
    exact ih (i + 1) c (by omega)
   ·rw [if_neg (fun hh => cx hh.2)]
    exact ev_ifn cx (stop i h1)
  ·rw [if_neg (fun hh => c hh.1)]
   exact ev_ifn (by omega) (stop i h1)
theorem iCountWhen_ev (n d : Int) (l : List MK) (x : Int) : Ev (fun k => impl_CountWhen.f k n d l x) (whenR (cts n d) (fun m => m.f0) (fun m => m.f1) n d l x) := by
 unfold impl_CountWhen.f
 refine Ev.bind (a := whenR (cts n d) (fun m => m.f0) (fun m => m.f1) n d l x) ?_ (Ev.now _)
 unfold impl_between_60_61_62.f whenR
 refine Ev.bind (iMarksOk_ev l n d) ?_
 simp only [show pMarksOk = (fun j i => decide (j + 1 = i)) from rfl, timeOf_eq, in_eq, Option.bind_some]
 have j0t : ∀ R : Int × Int × Bool, R = (0, 0, false) → Ev (fun k => impl_between_60_61_62.j0 k l x true n d) R := fun R hR => by
  rw [hR]
  exact Ev.step (fun k => by simp only [impl_between_60_61_62.j0]; rfl) (ev_if (by trivial) (Ev.now _))
 by_cases h : mks (fun j i => decide (j + 1 = i)) n d l = true
 ·simp only [if_pos h]
  have hl := ((mks_iff _ _ _ _).1 h).2.1
  have b0 := mk_bd h 0 (by omega)
  have b1 := mk_bd h (l.length - 1) (by omega)
  have z0 : rd_T38 l ((0 : Nat) : Int) = rd_T38 l 0 := rfl
  rw [z0] at b0
  refine ev_if (by omega) ?_
  rw [w64 (x := (l.length : Int) - 1) (by omega) (by omega), show (l.length : Int) - 1 = ((l.length - 1 : Nat) : Int) by omega]
  refine ev_if (by omega) (ev_if (by omega) ?_)
  by_cases c : (rd_T38 l 0).f0 ≤ x ∧ x ≤ (rd_T38 l ((l.length - 1 : Nat) : Int)).f0
  ·rw [if_pos c, decide_eq_true c]
   refine Ev.step (fun k => by simp only [impl_between_60_61_62.j0]; rfl) (ev_ifn (by decide) ?_)
   refine Ev.step (fun k => by simp only [impl_between_60_61_62.j1]; rfl) ?_
   exact iCw_l0 h x (by omega) l.length 0 (by omega) (by omega)
  ·rw [if_neg c, decide_eq_false c]
   exact j0t _ rfl
 ·simp only [if_neg h]
  exact j0t _ rfl

theorem FnExactCountWhen (a0_0 : Int) (a0_1 : Int) (l1 : List S69) (a2 : Int) (_h : (Lit.int .i64 a0_0).wf = true ∧ (Lit.int .i64 a0_1).wf = true) (_h1 : ∀ x ∈ l1, (Lit.int .i64 x.f0).wf = true ∧ (Lit.int .i64 x.f1).wf = true) (hm : l1.length ≤ 9223372036854775807) (_h2 : (Lit.int .i64 a2).wf = true) : ∃ k, laws_FnExactCountWhen.f k a0_0 a0_1 l1 a2 = some true := by
 apply Ev.rounds
 unfold laws_FnExactCountWhen.f laws_szMarkS.f
 rw [w64 (x := 1048576 - (l1.length : Int)) (by omega) (by omega)]
 by_cases c : 1048576 - (l1.length : Int) < 0
 ·simp only [c, if_true, Option.bind_some, show (-1 : Int) < 0 by omega]
  exact Ev.now true
 ·simp only [c, if_false, Option.bind_some, toDrift_eq]
  refine Ev.bind (toMarkS_ev l1 (by omega)) ?_
  refine Ev.bind (sCountWhen_ev _ _ _ _) ?_
  refine Ev.bind (toMarkS_ev l1 (by omega)) ?_
  refine Ev.bind (iCountWhen_ev _ _ _ _) ?_
  simp only [eqIval_self, Option.bind_some, if_true, bne_self_eq_false]
  refine Ev.step (fun k => by simp only [laws_FnExactCountWhen.j0]; rfl) ?_
  simp only [Bool.false_eq_true, if_false]
  refine Ev.bind (toMarkS_ev l1 (by omega)) ?_
  refine Ev.bind (eqMarkS_ev _ (by rw [List.length_map]; omega)) ?_
  simp only [if_true]
  exact Ev.now true

end Go.Proofs.Ytlikojcfjamgpaa.Pure
