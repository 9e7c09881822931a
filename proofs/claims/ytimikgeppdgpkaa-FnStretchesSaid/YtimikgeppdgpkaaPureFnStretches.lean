/- The plain half of FnStretches: what the printed functions compute, over numbers and lists alone. No condition. -/
import Derived.Test.YtimikgeppdgpkaaXFnStretchesx
import Derived.OpenShut
namespace Go.Proofs.Ytimikgeppdgpkaa.Pure
open Go.RowKit Go.Proofs.Ytimikgeppdgpkaa.XFnStretches Go.Proofs.YtimikgeppdgpkaaW.PrintWords Go.Proofs.YtimikgeppdgpkaaW.PrintLast Go.Proofs.YtimikgeppdgpkaaW.PrintMore
set_option linter.unusedVariables false
set_option linter.unusedSimpArgs false
theorem wf64 {x : Int} (h : (Lit.int .i64 x).wf = true) : -9223372036854775808 ≤ x ∧ x ≤ 9223372036854775807 := by
  simp [Lit.wf, IntKind.min, IntKind.max, IntKind.signed, IntKind.bits] at h
  omega
theorem w64 {x : Int} (h1 : -9223372036854775808 ≤ x) (h2 : x ≤ 9223372036854775807) : wrap64 x = x := by
  unfold wrap64
  omega
theorem in_eq (a b c : Int) : impl_in.f a b c = some (decide (b ≤ a ∧ a ≤ c)) := by
  unfold impl_in.f
  by_cases h : b ≤ a <;> simp [h]
theorem l1In_eq (a b c : Int) : spec_l1In.f a b c = some (decide (b ≤ a ∧ a ≤ c)) := by
  unfold spec_l1In.f
  by_cases h : b ≤ a <;> simp [h]
theorem iIvalOk_eq (a b : Int) : impl_IvalOk.f a b = some (decide (-1000000000000 ≤ a ∧ a ≤ b ∧ b ≤ 1000000000000)) := by
  unfold impl_IvalOk.f
  by_cases h : -1000000000000 ≤ a <;> by_cases h2 : a ≤ b <;> simp [h, h2]
theorem iDriftOk_eq (n d : Int) : impl_DriftOk.f n d = some (decide (1 ≤ d ∧ d ≤ 1000000 ∧ 0 ≤ n ∧ 2 * n ≤ d)) := by
  unfold impl_DriftOk.f
  simp only [in_eq, Option.bind_some, decide_eq_true_eq]
  by_cases h : 1 ≤ d ∧ d ≤ 1000000
  · rw [if_pos h]
    by_cases h2 : 0 ≤ n ∧ n ≤ d
    · rw [if_pos h2, w64 (by omega) (by omega)]
      simp only [Option.some.injEq, decide_eq_decide]
      omega
    · rw [if_neg h2]
      simp only [Option.some.injEq]
      exact (decide_eq_false (by omega)).symm
  · rw [if_neg h]
    simp only [Option.some.injEq]
    exact (decide_eq_false (by omega)).symm
theorem sDriftOk_eq (n d : Int) : spec_DriftOk.f n d = some (decide (1 ≤ d ∧ d ≤ 1000000 ∧ 0 ≤ n ∧ 2 * n ≤ d)) := by
  unfold spec_DriftOk.f
  simp only [l1In_eq, Option.bind_some, decide_eq_true_eq]
  by_cases h : 1 ≤ d ∧ d ≤ 1000000
  · rw [if_pos h]
    by_cases h2 : 0 ≤ n ∧ n ≤ d
    · rw [if_pos h2, w64 (by omega) (by omega)]
      simp only [Option.some.injEq, decide_eq_decide]
      omega
    · rw [if_neg h2]
      simp only [Option.some.injEq]
      exact (decide_eq_false (by omega)).symm
  · rw [if_neg h]
    simp only [Option.some.injEq]
    exact (decide_eq_false (by omega)).symm
theorem isTime_eq (a : Int) : impl_isTime.f a = some (decide (0 ≤ a ∧ a ≤ 1000000000000)) := by
  unfold impl_isTime.f
  rw [in_eq]
  rfl
theorem l2Time_eq (a : Int) : spec_l2Time.f a = some (decide (0 ≤ a ∧ a ≤ 1000000000000)) := by
  unfold spec_l2Time.f
  rw [l1In_eq]
  rfl
theorem l1Max_eq (a b : Int) : spec_l1Max.f a b = some (mx a b) := by
  unfold spec_l1Max.f mx
  by_cases h : a > b
  · rw [if_pos h, if_neg (by omega)]
  · rw [if_neg h]
    by_cases h2 : a < b
    · rw [if_pos h2]
    · rw [if_neg h2]
      have : a = b := by omega
      rw [this]
theorem l1Min_eq (a b : Int) : spec_l1Min.f a b = some (mn a b) := by
  unfold spec_l1Min.f mn
  by_cases h : a < b
  · rw [if_pos h, if_neg (by omega)]
  · rw [if_neg h]
    by_cases h2 : b < a
    · rw [if_pos h2]
    · rw [if_neg h2]
      have : a = b := by omega
      rw [this]
/-- All of a list are bytes. -/
def U8s (l : List Int) : Prop := ∀ x ∈ l, (Lit.int .u8 x).wf = true
theorem u8s_rd {l : List Int} (h : U8s l) (i : Int) : 0 ≤ rd l i ∧ rd l i ≤ 255 := by
  unfold rd
  rw [List.getD_eq_getElem?_getD]
  rcases Nat.lt_or_ge i.toNat l.length with hi | hi
  · rw [List.getElem?_eq_getElem hi]
    exact Go.bounds_u8 (h _ (List.getElem_mem hi))
  · rw [List.getElem?_eq_none hi]
    decide
theorem rd_nat (l : List Int) (i : Nat) (hi : i < l.length) : rd l (i : Int) = l[i] := by
  unfold rd
  rw [List.getD_eq_getElem?_getD]
  simp [List.getElem?_eq_getElem hi]
/-- A cursor's place. -/
def Cu (b : List Int) (i : Int) : Prop := 0 ≤ i ∧ i ≤ b.length ∧ b.length ≤ 1048576
theorem and255_in (y : Int) : 0 ≤ Go.bits .and .i64 y 255 ∧ Go.bits .and .i64 y 255 ≤ 255 := by
  have e : Go.bits .and .i64 y 255 = IntKind.i64.wrap ((BitVec.ofInt 64 y &&& BitVec.ofInt 64 255).toNat : Int) := rfl
  have h1 : (BitVec.ofInt 64 y &&& BitVec.ofInt 64 255).toNat ≤ 255 := by
    rw [BitVec.toNat_and]
    exact Nat.le_trans Nat.and_le_right (by decide)
  have h2 : IntKind.i64.wrap ((BitVec.ofInt 64 y &&& BitVec.ofInt 64 255).toNat : Int) = ((BitVec.ofInt 64 y &&& BitVec.ofInt 64 255).toNat : Int) := by
    rw [IntKind.wrap_i64]
    omega
  rw [e, h2]
  omega
theorem l1Byte_ok {b : List Int} {i : Int} (h : Int) (hc : Cu b i) : ∃ x i' h', spec_l1Byte.f b i h = some (x, i', h') ∧ (0 ≤ x ∧ x ≤ 255) ∧ Cu b i' := by
  obtain ⟨h0, h1, h2⟩ := hc
  unfold spec_l1Byte.f
  by_cases c : i < (b.length : Int)
  · rw [if_pos c, if_pos h0]
    exact ⟨_, _, _, rfl, and255_in _, by rw [w64 (by omega) (by omega)]; exact ⟨by omega, by omega, h2⟩⟩
  · rw [if_neg c]
    exact ⟨_, _, _, rfl, and255_in _, h0, h1, h2⟩
theorem l1Below_ok {b : List Int} {i : Int} (h n : Int) (hn : n ≤ 9223372036854775807) (hc : Cu b i) : ∃ x i' h', spec_l1Below.f b i h n = some (x, i', h') ∧ 0 ≤ x ∧ (0 < n → x < n) ∧ (n ≤ 0 → x = 0) ∧ x ≤ 4294967295 ∧ Cu b i' := by
  unfold spec_l1Below.f
  by_cases c : n ≤ 0
  · rw [if_pos c]
    exact ⟨_, _, _, rfl, by omega, by omega, fun _ => rfl, by omega, hc⟩
  · rw [if_neg c]
    by_cases c2 : n ≤ 256
    · rw [if_pos c2]
      obtain ⟨x, i', h', e, hx, hc'⟩ := l1Byte_ok h hc
      rw [e]
      simp only [Option.bind_some, if_neg (show ¬ (n = 0) by omega)]
      rw [Int.tmod_eq_emod_of_nonneg hx.1]
      have h1 := Int.emod_nonneg x (show n ≠ 0 by omega)
      have h2 := Int.emod_lt_of_pos x (show 0 < n by omega)
      exact ⟨_, _, _, rfl, h1, fun _ => h2, by omega, by omega, hc'⟩
    · rw [if_neg c2]
      obtain ⟨x, i1, h1, e1, hx, hc1⟩ := l1Byte_ok h hc
      obtain ⟨y, i2, h2, e2, hy, hc2⟩ := l1Byte_ok h1 hc1
      obtain ⟨z, i3, h3, e3, hz, hc3⟩ := l1Byte_ok h2 hc2
      obtain ⟨w, i4, h4, e4, hw, hc4⟩ := l1Byte_ok h3 hc3
      rw [e1]
      simp only [Option.bind_some]
      rw [e2]
      simp only [Option.bind_some]
      rw [e3]
      simp only [Option.bind_some]
      rw [e4]
      simp only [Option.bind_some, if_neg (show ¬ (n = 0) by omega)]
      have ew : wrap64 (wrap64 (wrap64 (wrap64 (x * 16777216) + wrap64 (y * 65536)) + wrap64 (z * 256)) + w) = x * 16777216 + y * 65536 + z * 256 + w := by
        rw [w64 (x := x * 16777216) (by omega) (by omega), w64 (x := y * 65536) (by omega) (by omega), w64 (x := z * 256) (by omega) (by omega), w64 (x := x * 16777216 + y * 65536) (by omega) (by omega), w64 (x := x * 16777216 + y * 65536 + z * 256) (by omega) (by omega), w64 (by omega) (by omega)]
      rw [ew, Int.tmod_eq_emod_of_nonneg (by omega)]
      have g1 := Int.emod_nonneg (x * 16777216 + y * 65536 + z * 256 + w) (show n ≠ 0 by omega)
      have g2 := Int.emod_lt_of_pos (x * 16777216 + y * 65536 + z * 256 + w) (show 0 < n by omega)
      have g3 : (x * 16777216 + y * 65536 + z * 256 + w) % n ≤ x * 16777216 + y * 65536 + z * 256 + w := by
        have q1 := Int.emod_add_mul_ediv (x * 16777216 + y * 65536 + z * 256 + w) n
        have q2 : 0 ≤ n * ((x * 16777216 + y * 65536 + z * 256 + w) / n) := Int.mul_nonneg (by omega) (Int.ediv_nonneg (by omega) (by omega))
        omega
      exact ⟨_, _, _, rfl, g1, fun _ => g2, by omega, by omega, hc4⟩
theorem l1New_l0 (b : List Int) (hl : b.length ≤ 1048576) (d : Nat) : ∀ (i : Nat) (x : Int), i + d = b.length → ∃ h, Ev (fun k => spec_l1New.l0 k b x (i : Int)) (b, 0, h) := by
  induction d with
  | zero =>
    intro i x hi
    refine ⟨x, Ev.step (fun k => by simp only [spec_l1New.l0]; rfl) ?_⟩
    simp only [show ¬ ((i : Int) < (b.length : Int)) by omega, if_false]
    exact Ev.now _
  | succ d ih =>
    intro i x hi
    by_cases c : (i : Int) < 4000
    · obtain ⟨h, hh⟩ := ih (i + 1) (Go.bits .and .i64 (wrap64 ((wrap64 ((wrap64 (x * 131)) + (wrap64 (rd b (i : Int))))) + 7)) 1073741823) (by omega)
      refine ⟨h, Ev.step (fun k => by simp only [spec_l1New.l0]; rfl) ?_⟩
      simp only [show (i : Int) < (b.length : Int) by omega, c, show (0 : Int) ≤ (i : Int) by omega, if_true]
      rw [w64 (x := (i : Int) + 1) (by omega) (by omega)]
      exact hh
    · refine ⟨x, Ev.step (fun k => by simp only [spec_l1New.l0]; rfl) ?_⟩
      simp only [show (i : Int) < (b.length : Int) by omega, c, if_true, if_false]
      exact Ev.now _
theorem l1New_ev (b : List Int) (hl : b.length ≤ 1048576) : ∃ h, Ev (fun k => spec_l1New.f k b) (b, 0, h) := by
  unfold spec_l1New.f
  exact l1New_l0 b hl b.length 0 _ (by omega)
theorem cu0 {b : List Int} (hl : b.length ≤ 1048576) : Cu b 0 := ⟨by omega, by omega, hl⟩
theorem l1PickInt_ok {b : List Int} {i : Int} (h : Int) (l : List Int) (hl0 : 0 < l.length) (hl1 : l.length ≤ 256) (hc : Cu b i) : ∃ x i' h', spec_l1PickInt.f b i h l = some (x, i', h') ∧ x ∈ l ∧ Cu b i' := by
  unfold spec_l1PickInt.f
  obtain ⟨x, i', h', e, hx0, hx1, _, _, hc'⟩ := l1Below_ok h (l.length : Int) (by omega) hc
  rw [e]
  have := hx1 (by omega)
  simp only [Option.bind_some, if_pos hx0, if_pos this]
  refine ⟨_, _, _, rfl, ?_, hc'⟩
  unfold rd
  rw [List.getD_eq_getElem?_getD, List.getElem?_eq_getElem (by omega)]
  exact List.getElem_mem _
theorem fl_unique {a b q : Int} (hb : 0 < b) (h1 : q * b ≤ a) (h2 : a < (q + 1) * b) : a / b = q := by
  have e1 := (Int.le_ediv_iff_mul_le hb).2 h1
  have e2 := (Int.ediv_lt_iff_lt_mul hb).2 h2
  omega
theorem mul_bd {c d A B : Int} (h0 : 0 ≤ c) (h1 : c ≤ A) (h2 : 0 ≤ d) (h3 : d ≤ B) : 0 ≤ c * d ∧ c * d ≤ A * B := ⟨Int.mul_nonneg h0 h2, Int.mul_le_mul h1 h3 h2 (by omega)⟩
theorem ediv_bd {a b : Int} (h : 0 ≤ a) (hb : 0 < b) : 0 ≤ a / b ∧ a / b ≤ a := ⟨Int.ediv_nonneg h (by omega), Int.ediv_le_self b h⟩
theorem downv (a b : Int) (hb : 0 < b) (h0 : -4000000000000000000 ≤ a) (h1 : a ≤ 4000000000000000000) : spec_l1Down.f a b = some (a / b) := by
  unfold spec_l1Down.f
  rw [if_neg (by omega)]
  rcases Int.le_total 0 a with h | h
  · have hm : 0 ≤ Int.tmod a b := by
      rw [Int.tmod_eq_emod_of_nonneg h]
      exact Int.emod_nonneg _ (by omega)
    obtain ⟨q0, q1⟩ := ediv_bd h hb
    rw [if_neg (by omega), Int.tdiv_eq_ediv_of_nonneg h, w64 (by omega) (by omega)]
  · obtain ⟨m, rfl⟩ : ∃ m, a = -m := ⟨-a, by omega⟩
    have hm : 0 ≤ m := by omega
    have e1 := Int.emod_nonneg m (show b ≠ 0 by omega)
    have e2 := Int.emod_lt_of_pos m hb
    have e3 := Int.emod_add_mul_ediv m b
    obtain ⟨q0, q1⟩ := ediv_bd hm hb
    rw [Int.neg_tmod, Int.neg_tdiv, Int.tmod_eq_emod_of_nonneg hm, Int.tdiv_eq_ediv_of_nonneg hm]
    generalize m / b = q at *
    generalize m % b = r at *
    have e4 : q * b = b * q := Int.mul_comm _ _
    by_cases c : -r < 0
    · rw [if_pos c, w64 (x := -q) (by omega) (by omega), w64 (by omega) (by omega)]
      congr 1
      symm
      apply fl_unique hb
      · rw [Int.sub_mul, Int.neg_mul, Int.one_mul]
        omega
      · rw [show -q - 1 + 1 = -q by omega, Int.neg_mul]
        omega
    · rw [if_neg c, w64 (by omega) (by omega)]
      congr 1
      symm
      apply fl_unique hb
      · rw [Int.neg_mul]
        omega
      · rw [Int.add_mul, Int.neg_mul, Int.one_mul]
        omega
theorem upv (a b : Int) (hb : 0 < b) (h0 : 0 ≤ a) (h1 : a ≤ 4000000000000000000) : spec_l1Up.f a b = some (-((-a) / b)) := by
  unfold spec_l1Up.f
  rw [w64 (x := -a) (by omega) (by omega), downv _ _ hb (by omega) (by omega)]
  have e0 : -a ≤ -a / b := (Int.le_ediv_iff_mul_le hb).2 (by
    have : -a * b ≤ -a * 1 := Int.mul_le_mul_of_nonpos_left (by omega) (by omega)
    omega)
  have e1 : -a / b < 1 := (Int.ediv_lt_iff_lt_mul hb).2 (by omega)
  simp only [Option.bind_some]
  rw [w64 (by omega) (by omega)]
/-- What may be counted: the bounds. -/
def dOk (n d : Int) : Bool := decide (1 ≤ d ∧ d ≤ 1000000 ∧ 0 ≤ n ∧ 2 * n ≤ d)
def tOk (t : Int) : Bool := decide (0 ≤ t ∧ t ≤ 1000000000000)
def leastT (n d c : Int) : Int := -((-(c * d)) / (d + n))
def mostT (n d c : Int) : Int := c * d / (d - n)
def leastC (n d t : Int) : Int := -((-(t * (d - n))) / d)
def mostC (n d t : Int) : Int := t * (d + n) / d
def tld (b : Bool) (v : Int) : Int × Bool := if b = true ∧ v ≤ 1000000000000 then (v, true) else (0, false)
theorem dOk_iff {n d : Int} : dOk n d = true ↔ 1 ≤ d ∧ d ≤ 1000000 ∧ 0 ≤ n ∧ 2 * n ≤ d := by unfold dOk; exact decide_eq_true_iff
theorem tOk_iff {t : Int} : tOk t = true ↔ 0 ≤ t ∧ t ≤ 1000000000000 := by unfold tOk; exact decide_eq_true_iff
theorem l2Told_eq (v : Int) : spec_l2Told.f v = some (tld true v) := by
  unfold spec_l2Told.f tld
  by_cases c : v > 1000000000000
  · rw [if_pos c, if_neg (by omega)]
  · rw [if_neg c, if_pos ⟨rfl, by omega⟩]
theorem idown_eq (a b : Int) : impl_down.f a b = spec_l1Down.f a b := rfl
theorem iup_eq (a b : Int) : impl_up.f a b = spec_l1Up.f a b := by
  unfold impl_up.f spec_l1Up.f
  simp only [idown_eq]
theorem iLeastCount_eq (n d c : Int) : impl_LeastCount.f n d c = some (tld (dOk n d && tOk c) (leastC n d c)) := by
  unfold impl_LeastCount.f impl_LeastCount_1.f
  simp only [iDriftOk_eq, isTime_eq, Option.bind_some, iup_eq]
  change (if dOk n d = true then (if tOk c = true then _ else _) else _) = _
  by_cases c1 : dOk n d = true
  · rw [if_pos c1]
    by_cases c2 : tOk c = true
    · rw [if_pos c2]
      have h1 := dOk_iff.1 c1
      have h2 := tOk_iff.1 c2
      have h3 := mul_bd h2.1 h2.2 (show 0 ≤ d - n by omega) (show d - n ≤ 1000000 by omega)
      rw [w64 (x := d - n) (by omega) (by omega), w64 (x := c * (d - n)) (by omega) (by omega), upv _ _ (by omega) h3.1 (by omega), c1, c2]
      simp only [Option.bind_some, Bool.and_self, tld, leastC, true_and]
      split <;> rfl
    · rw [if_neg c2]
      simp [tld, c2]
  · rw [if_neg c1]
    simp [tld, c1]
theorem iMostCount_eq (n d c : Int) : impl_MostCount.f n d c = some (tld (dOk n d && tOk c) (mostC n d c)) := by
  unfold impl_MostCount.f impl_MostCount_1.f
  simp only [iDriftOk_eq, isTime_eq, Option.bind_some]
  change (if dOk n d = true then (if tOk c = true then _ else _) else _) = _
  by_cases c1 : dOk n d = true
  · rw [if_pos c1]
    by_cases c2 : tOk c = true
    · rw [if_pos c2]
      have h1 := dOk_iff.1 c1
      have h2 := tOk_iff.1 c2
      have h3 := mul_bd h2.1 h2.2 (show 0 ≤ d + n by omega) (show d + n ≤ 2000000 by omega)
      have h4 := ediv_bd h3.1 (show 0 < d by omega)
      rw [w64 (x := d + n) (by omega) (by omega), w64 (x := c * (d + n)) (by omega) (by omega), if_neg (by omega), Int.tdiv_eq_ediv_of_nonneg h3.1, w64 (by omega) (by omega), c1, c2]
      simp only [Option.bind_some, Bool.and_self, tld, mostC, true_and]
      split <;> rfl
    · rw [if_neg c2]
      simp [tld, c2]
  · rw [if_neg c1]
    simp [tld, c1]
theorem sLeastCount_eq (k : Nat) (n d c : Int) : spec_LeastCount.f (k + 1) n d c = some (tld (dOk n d && tOk c) (leastC n d c)) := by
  unfold spec_LeastCount.f
  simp only [sDriftOk_eq, l2Time_eq, Option.bind_some, spec_LeastCount.j0, if_true]
  change (if dOk n d = true then (if (!tOk c) = true then _ else _) else _) = _
  by_cases c1 : dOk n d = true
  · rw [if_pos c1]
    by_cases c2 : tOk c = true
    · rw [if_neg (by simp [c2])]
      have h1 := dOk_iff.1 c1
      have h2 := tOk_iff.1 c2
      have h3 := mul_bd h2.1 h2.2 (show 0 ≤ d - n by omega) (show d - n ≤ 1000000 by omega)
      rw [w64 (x := d - n) (by omega) (by omega), w64 (x := c * (d - n)) (by omega) (by omega), upv _ _ (by omega) h3.1 (by omega), c1, c2]
      simp only [Option.bind_some, l2Told_eq]
      rfl
    · rw [if_pos (by simp [c2])]
      simp [tld, c2]
  · rw [if_neg c1]
    simp [tld, c1]
theorem sMostCount_eq (k : Nat) (n d c : Int) : spec_MostCount.f (k + 1) n d c = some (tld (dOk n d && tOk c) (mostC n d c)) := by
  unfold spec_MostCount.f
  simp only [sDriftOk_eq, l2Time_eq, Option.bind_some, spec_MostCount.j0, if_true]
  change (if dOk n d = true then (if (!tOk c) = true then _ else _) else _) = _
  by_cases c1 : dOk n d = true
  · rw [if_pos c1]
    by_cases c2 : tOk c = true
    · rw [if_neg (by simp [c2])]
      have h1 := dOk_iff.1 c1
      have h2 := tOk_iff.1 c2
      have h3 := mul_bd h2.1 h2.2 (show 0 ≤ d + n by omega) (show d + n ≤ 2000000 by omega)
      rw [w64 (x := d + n) (by omega) (by omega), w64 (x := c * (d + n)) (by omega) (by omega), downv _ _ (by omega) (by omega) (by omega), c1, c2]
      simp only [Option.bind_some, l2Told_eq]
      rfl
    · rw [if_pos (by simp [c2])]
      simp [tld, c2]
  · rw [if_neg c1]
    simp [tld, c1]

/-- The counts of a time. -/
def cts (n d t : Int) : Int × Int × Bool := if (tld (dOk n d && tOk t) (leastC n d t)).2 = true then (if (tld (dOk n d && tOk t) (mostC n d t)).2 = true then ((tld (dOk n d && tOk t) (leastC n d t)).1, (tld (dOk n d && tOk t) (mostC n d t)).1, true) else (0, 0, false)) else (0, 0, false)
theorem icounts_eq (n d t : Int) : impl_counts.f n d t = some (cts n d t) := by
  unfold impl_counts.f impl_both_25_21.f cts
  simp only [iLeastCount_eq, iMostCount_eq, Option.bind_some]
  split
  · split <;> rfl
  · rfl
theorem leastT_bd {n d c : Int} (h1 : dOk n d = true) (h2 : tOk c = true) : 0 ≤ leastT n d c ∧ leastT n d c ≤ c := by
  have g1 := dOk_iff.1 h1
  have g2 := tOk_iff.1 h2
  unfold leastT
  have hp := Int.mul_nonneg g2.1 (show 0 ≤ d by omega)
  have hq := Int.mul_nonneg g2.1 g1.2.2.1
  have e0 : -c ≤ -(c * d) / (d + n) := (Int.le_ediv_iff_mul_le (by omega)).2 (by rw [Int.neg_mul, Int.mul_add]; omega)
  have e1 : -(c * d) / (d + n) < 1 := (Int.ediv_lt_iff_lt_mul (by omega)).2 (by omega)
  omega
theorem mostT_bd {n d c : Int} (h1 : dOk n d = true) (h2 : tOk c = true) : c ≤ mostT n d c ∧ mostT n d c ≤ 2 * c := by
  have g1 := dOk_iff.1 h1
  have g2 := tOk_iff.1 h2
  unfold mostT
  have hq := Int.mul_nonneg g2.1 g1.2.2.1
  have hr := Int.mul_nonneg g2.1 (show 0 ≤ d - 2 * n by omega)
  have e0 : c ≤ c * d / (d - n) := (Int.le_ediv_iff_mul_le (by omega)).2 (by rw [Int.mul_sub]; omega)
  have e1 : c * d / (d - n) < 2 * c + 1 := (Int.ediv_lt_iff_lt_mul (by omega)).2 (by
    have e : (2 * c + 1) * (d - n) = c * (d - 2 * n) + c * d + (d - n) := by
      have e5 : c * (2 * n) = 2 * (c * n) := Int.mul_left_comm c 2 n
      rw [Int.add_mul, Int.one_mul, Int.mul_assoc, Int.mul_sub c d n, Int.mul_sub c d (2 * n), e5]
      omega
    rw [e]
    omega)
  omega
theorem leastC_bd {n d t : Int} (h1 : dOk n d = true) (h2 : tOk t = true) : 0 ≤ leastC n d t ∧ leastC n d t ≤ t := by
  have g1 := dOk_iff.1 h1
  have g2 := tOk_iff.1 h2
  unfold leastC
  have hp := Int.mul_nonneg g2.1 (show 0 ≤ d - n by omega)
  have hq := Int.mul_nonneg g2.1 g1.2.2.1
  have e0 : -t ≤ -(t * (d - n)) / d := (Int.le_ediv_iff_mul_le (by omega)).2 (by rw [Int.neg_mul, Int.mul_sub]; omega)
  have e1 : -(t * (d - n)) / d < 1 := (Int.ediv_lt_iff_lt_mul (by omega)).2 (by omega)
  omega
theorem mostC_bd {n d t : Int} (h1 : dOk n d = true) (h2 : tOk t = true) : t ≤ mostC n d t ∧ mostC n d t ≤ 2 * t := by
  have g1 := dOk_iff.1 h1
  have g2 := tOk_iff.1 h2
  unfold mostC
  have hq := Int.mul_nonneg g2.1 g1.2.2.1
  have hr := Int.mul_nonneg g2.1 (show 0 ≤ d - n by omega)
  have e0 : t ≤ t * (d + n) / d := (Int.le_ediv_iff_mul_le (by omega)).2 (by rw [Int.mul_add]; omega)
  have e1 : t * (d + n) / d < 2 * t + 1 := (Int.ediv_lt_iff_lt_mul (by omega)).2 (by
    have e : (2 * t + 1) * d = t * (d + n) + t * (d - n) + d := by
      rw [Int.add_mul, Int.one_mul, Int.mul_assoc, Int.mul_add, Int.mul_sub]
      omega
    rw [e]
    omega)
  omega
theorem tld_true (v : Int) : tld true v = if v ≤ 1000000000000 then (v, true) else (0, false) := by
  unfold tld
  simp
theorem tld_false (v : Int) : tld false v = (0, false) := by
  unfold tld
  simp
theorem cts_in {n d t : Int} (h : (cts n d t).2.2 = true) : dOk n d = true ∧ tOk t = true ∧ (cts n d t).1 = leastC n d t ∧ (cts n d t).2.1 = mostC n d t ∧ mostC n d t ≤ 1000000000000 := by
  unfold cts at h ⊢
  by_cases c : (dOk n d && tOk t) = true
  · rw [c] at h ⊢
    rw [Bool.and_eq_true] at c
    rw [tld_true, tld_true] at h ⊢
    by_cases c1 : leastC n d t ≤ 1000000000000
    · rw [if_pos c1] at h ⊢
      by_cases c2 : mostC n d t ≤ 1000000000000
      · rw [if_pos c2] at h ⊢
        exact ⟨c.1, c.2, by simp, by simp, c2⟩
      · rw [if_neg c2] at h
        simp at h
    · rw [if_neg c1] at h
      simp at h
  · rw [Bool.not_eq_true] at c
    rw [c] at h
    simp [tld_false] at h
/-- What Clamp tells. -/
def clamp (n d t w : Int) : Int × Bool := if (cts n d t).2.2 = true then (mx (cts n d t).1 (mn (cts n d t).2.1 w), true) else (0, false)
theorem iClamp_eq (n d t w : Int) : impl_Clamp.f n d t w = some (clamp n d t w) := by
  unfold impl_Clamp.f clamp
  simp only [icounts_eq, Option.bind_some]
  by_cases c : (cts n d t).2.2 = true
  · rw [if_pos c, if_pos c]
    obtain ⟨h1, h2, e1, e2, h3⟩ := cts_in c
    unfold impl_Nearest.f
    have b1 := leastC_bd h1 h2
    have b2 := mostC_bd h1 h2
    simp only [iIvalOk_eq, Option.bind_some, decide_eq_true_eq]
    rw [if_pos (by rw [e1, e2]; omega)]
    rfl
  · rw [if_neg c, if_neg c]
theorem sClamp_j0 (k : Nat) (n d t w : Int) (c : (cts n d t).2.2 = true) : spec_Clamp.j0 (k + 1) w (leastC n d t) (mostC n d t) false = some (mx (leastC n d t) (mn (mostC n d t) w), true) := by
  obtain ⟨h1, h2, _, _, h3⟩ := cts_in c
  have b1 := leastC_bd h1 h2
  have b2 := mostC_bd h1 h2
  simp only [spec_Clamp.j0, Bool.false_eq_true, if_false, l1Max_eq, l1Min_eq, Option.bind_some]
  congr 1
  refine Prod.ext ?_ rfl
  simp only
  unfold mx mn
  omega
theorem sClamp_eq (k : Nat) (n d t w : Int) : spec_Clamp.f (k + 1) n d t w = some (clamp n d t w) := by
  unfold spec_Clamp.f clamp
  simp only [sLeastCount_eq, sMostCount_eq, Option.bind_some]
  by_cases c : (cts n d t).2.2 = true
  · obtain ⟨h1, h2, e1, e2, h3⟩ := cts_in c
    have b1 := leastC_bd h1 h2
    have b2 := mostC_bd h1 h2
    rw [if_pos c, e1, e2, h1, h2, Bool.and_self, tld_true, tld_true, if_pos (show leastC n d t ≤ 1000000000000 by omega), if_pos h3]
    simp only [if_true, Bool.not_true]
    exact sClamp_j0 k n d t w c
  · rw [if_neg c]
    unfold cts at c
    by_cases c1 : (tld (dOk n d && tOk t) (leastC n d t)).2 = true
    · rw [if_pos c1] at c ⊢
      by_cases c2 : (tld (dOk n d && tOk t) (mostC n d t)).2 = true
      · rw [if_pos c2] at c
        simp at c
      · rw [Bool.not_eq_true] at c2
        rw [c2]
        simp [spec_Clamp.j0]
    · rw [if_neg c1]
      simp [spec_Clamp.j0]
theorem ev1 {α : Type} {g : Nat → Option α} {r : α} (h : ∀ k, g (k + 1) = some r) : Ev g r := ⟨1, fun k hk => by obtain ⟨m, rfl⟩ : ∃ m, k = m + 1 := ⟨k - 1, by omega⟩; exact h m⟩

/-- A count of a time. -/
def mayC (n d c t : Int) : Bool := dOk n d && (tOk c && (tOk t && (decide (c * (d - n) ≤ t * d) && decide (t * d ≤ c * (d + n)))))
theorem may_ws {n d c t : Int} (h1 : dOk n d = true) (h2 : tOk c = true) (h3 : tOk t = true) : wrap64 (d - n) = d - n ∧ wrap64 (d + n) = d + n ∧ wrap64 (c * (d - n)) = c * (d - n) ∧ wrap64 (c * (d + n)) = c * (d + n) ∧ wrap64 (t * d) = t * d := by
  have g1 := dOk_iff.1 h1
  have g2 := tOk_iff.1 h2
  have g3 := tOk_iff.1 h3
  have a1 := Int.mul_nonneg g2.1 (show 0 ≤ d - n by omega)
  have a2 := Int.mul_nonneg g2.1 (show 0 ≤ d + n by omega)
  have a3 := Int.mul_nonneg g3.1 (show 0 ≤ d by omega)
  have b1 := Int.mul_le_mul g2.2 (show d - n ≤ 1000000 by omega) (show 0 ≤ d - n by omega) (by omega)
  have b2 := Int.mul_le_mul g2.2 (show d + n ≤ 1500000 by omega) (show 0 ≤ d + n by omega) (by omega)
  have b3 := Int.mul_le_mul g3.2 g1.2.1 (show 0 ≤ d by omega) (by omega)
  exact ⟨w64 (by omega) (by omega), w64 (by omega) (by omega), w64 (by omega) (by omega), w64 (by omega) (by omega), w64 (by omega) (by omega)⟩
theorem iMay_eq (n d c t : Int) : impl_MayCount.f n d c t = some (mayC n d c t) := by
  unfold impl_MayCount.f mayC
  simp only [iDriftOk_eq, isTime_eq, Option.bind_some]
  change (if dOk n d = true then (if tOk c = true then (if tOk t = true then _ else _) else _) else _) = _
  by_cases h1 : dOk n d = true
  · by_cases h2 : tOk c = true
    · by_cases h3 : tOk t = true
      · obtain ⟨e1, e2, e3, e4, e5⟩ := may_ws h1 h2 h3
        rw [if_pos h1, if_pos h2, if_pos h3, h1, h2, h3, e1, e2, e3, e4, e5]
        by_cases h4 : c * (d - n) ≤ t * d
        · rw [if_pos h4]; simp [h4]
        · rw [if_neg h4]; simp [h4]
      · rw [if_pos h1, if_pos h2, if_neg h3]; simp [h3]
    · rw [if_pos h1, if_neg h2]; simp [h2]
  · rw [if_neg h1]; simp [h1]
theorem l1Once_ok {b : List Int} {i : Int} (h n : Int) (hn : n ≤ 9223372036854775807) (hc : Cu b i) : ∃ x i' h', spec_l1Once.f b i h n = some (x, i', h') ∧ Cu b i' := by
  unfold spec_l1Once.f
  obtain ⟨x, i', h', e, _, _, _, _, hc'⟩ := l1Below_ok h n hn hc
  rw [e]
  exact ⟨_, _, _, rfl, hc'⟩
theorem l2DrawCount_ok {b : List Int} {i : Int} (h : Int) (hc : Cu b i) : ∃ x i' h', spec_l2DrawCount.f b i h = some (x, i', h') ∧ -1 ≤ x ∧ x ≤ 9223372036854775807 ∧ Cu b i' := by
  unfold spec_l2DrawCount.f
  obtain ⟨x, i', h', e, hx0, hx1, _, _, hc'⟩ := l1Below_ok h 14 (by omega) hc
  rw [e]
  simp only [Option.bind_some]
  by_cases c0 : x = 0
  · rw [if_pos c0]
    obtain ⟨y, i2, h2, e2, hy, hc2⟩ := l1PickInt_ok h' [(-1), 0, 1000000000000, 1000000000001, 500000000000, 666666666666, 9223372036854775807] (by simp) (by simp) hc'
    rw [e2]
    refine ⟨_, _, _, rfl, ?_, ?_, hc2⟩ <;> (simp at hy; omega)
  · rw [if_neg c0]
    by_cases c1 : x = 1
    · rw [if_pos c1]
      obtain ⟨y, i2, h2, e2, hy0, hy1, _, _, hc2⟩ := l1Below_ok h' 1000000000 (by omega) hc'
      rw [e2]
      have := hy1 (by omega)
      refine ⟨_, _, _, rfl, ?_, ?_, hc2⟩ <;> (rw [w64 (by omega) (by omega)]; omega)
    · rw [if_neg c1]
      by_cases c2 : x = 2
      · rw [if_pos c2]
        obtain ⟨y, i2, h2, e2, hy0, hy1, _, _, hc2⟩ := l1Below_ok h' 6 (by omega) hc'
        rw [e2]
        have := hy1 (by omega)
        exact ⟨_, _, _, rfl, by simp only; omega, by simp only; omega, hc2⟩
      · rw [if_neg c2]
        obtain ⟨y, i2, h2, e2, hy0, hy1, _, _, hc2⟩ := l1Below_ok h' 5000 (by omega) hc'
        rw [e2]
        have := hy1 (by omega)
        exact ⟨_, _, _, rfl, by simp only; omega, by simp only; omega, hc2⟩
theorem l2DrawDrift_ok {b : List Int} {i : Int} (h : Int) (hc : Cu b i) : ∃ x y i' h', spec_l2DrawDrift.f b i h = some (x, y, i', h') ∧ (-1 ≤ x ∧ x ≤ 500001) ∧ (-1 ≤ y ∧ y ≤ 1000001) ∧ Cu b i' := by
  unfold spec_l2DrawDrift.f
  obtain ⟨x, i1, h1, e1, hx0, hx1, _, _, c1⟩ := l1Below_ok h 6 (by omega) hc
  obtain ⟨y, i2, h2, e2, hy0, hy1, _, _, c2⟩ := l1Below_ok h1 90 (by omega) c1
  obtain ⟨z, i3, h3, e3, hz0, hz1, _, _, c3⟩ := l1Below_ok h2 16 (by omega) c2
  have := hx1 (by omega)
  have := hy1 (by omega)
  simp only [e1, e2, e3, Option.bind_some]
  by_cases d0 : z = 0
  · rw [if_pos d0]
    obtain ⟨p, i4, h4, e4, hp, c4⟩ := l1PickInt_ok h3 [0, 1, 500000, 500001, 100] (by simp) (by simp) c3
    obtain ⟨q, i5, h5, e5, hq, c5⟩ := l1PickInt_ok h4 [1000000, 1000001, 999999] (by simp) (by simp) c4
    simp only [e4, e5, Option.bind_some]
    simp at hp hq
    exact ⟨_, _, _, _, rfl, by omega, by omega, c5⟩
  · rw [if_neg d0]
    by_cases d1 : z = 1
    · rw [if_pos d1]
      obtain ⟨p, i4, h4, e4, hp, c4⟩ := l1PickInt_ok h3 [0, 1, (-1), 3] (by simp) (by simp) c3
      obtain ⟨q, i5, h5, e5, hq, c5⟩ := l1PickInt_ok h4 [0, 1, 2, 3, 6, (-1)] (by simp) (by simp) c4
      simp only [e4, e5, Option.bind_some]
      simp at hp hq
      exact ⟨_, _, _, _, rfl, by omega, by omega, c5⟩
    · rw [if_neg d1]
      by_cases d2 : z = 2
      · rw [if_pos d2]
        exact ⟨_, _, _, _, rfl, by omega, by omega, c3⟩
      · rw [if_neg d2]
        exact ⟨_, _, _, _, rfl, by omega, by rw [w64 (by omega) (by omega)]; omega, c3⟩
theorem mayC_T {n d c t : Int} (hd : dOk n d = true) (ht : tOk t = true) : mayC n d c t = true ↔ tOk c = true ∧ leastT n d t ≤ c ∧ c ≤ mostT n d t := by
  have g := dOk_iff.1 hd
  have e1 : leastT n d t ≤ c ↔ t * d ≤ c * (d + n) := by
    unfold leastT
    have : -c ≤ -(t * d) / (d + n) ↔ -c * (d + n) ≤ -(t * d) := Int.le_ediv_iff_mul_le (by omega)
    rw [Int.neg_mul] at this
    omega
  have e2 : c ≤ mostT n d t ↔ c * (d - n) ≤ t * d := by
    unfold mostT
    exact Int.le_ediv_iff_mul_le (by omega)
  unfold mayC
  rw [Bool.and_eq_true, Bool.and_eq_true, Bool.and_eq_true, Bool.and_eq_true, decide_eq_true_iff, decide_eq_true_iff, e1, e2]
  constructor
  · rintro ⟨_, h1, _, h3, h4⟩
    exact ⟨h1, h4, h3⟩
  · rintro ⟨h1, h4, h3⟩
    exact ⟨hd, h1, ht, h3, h4⟩
theorem mayC_C {n d c t : Int} (hd : dOk n d = true) (hc : tOk c = true) : mayC n d c t = true ↔ tOk t = true ∧ leastC n d c ≤ t ∧ t ≤ mostC n d c := by
  have g := dOk_iff.1 hd
  have e1 : leastC n d c ≤ t ↔ c * (d - n) ≤ t * d := by
    unfold leastC
    have : -t ≤ -(c * (d - n)) / d ↔ -t * d ≤ -(c * (d - n)) := Int.le_ediv_iff_mul_le (by omega)
    rw [Int.neg_mul] at this
    omega
  have e2 : t ≤ mostC n d c ↔ t * d ≤ c * (d + n) := by
    unfold mostC
    exact Int.le_ediv_iff_mul_le (by omega)
  unfold mayC
  rw [Bool.and_eq_true, Bool.and_eq_true, Bool.and_eq_true, Bool.and_eq_true, decide_eq_true_iff, decide_eq_true_iff, e1, e2]
  constructor
  · rintro ⟨_, h1, h2, h3, h4⟩
    exact ⟨h2, h3, h4⟩
  · rintro ⟨h2, h3, h4⟩
    exact ⟨hd, hc, h2, h3, h4⟩
theorem big_eq (l : List Int) : laws_big.f l = some (decide ((l.length : Int) > 1048576)) := rfl
theorem wrap64_le (x : Int) : wrap64 x ≤ 9223372036854775807 := by unfold wrap64; omega
theorem at_ok (l : List Int) (i : Int) (h0 : 0 ≤ i) : ∃ c, laws_at.f l i = some c := by
  unfold laws_at.f
  by_cases h : i < (l.length : Int)
  · rw [if_pos h, if_pos h0]
    exact ⟨_, rfl⟩
  · rw [if_neg h]
    exact ⟨_, rfl⟩
theorem DrawClamp_ev (l : List Int) (hl : l.length ≤ 1048576) : ∃ r, Ev (fun k => spec_DrawClamp.f k l) r := by
  unfold spec_DrawClamp.f
  obtain ⟨h, hn⟩ := l1New_ev l hl
  obtain ⟨n, d, i1, h1, e1, _, _, c1⟩ := l2DrawDrift_ok h (cu0 hl)
  obtain ⟨x, i2, h2, e2, _, _, c2⟩ := l2DrawCount_ok h1 c1
  obtain ⟨y, i3, h3, e3, _, _, _, _, c3⟩ := l1Below_ok h2 (wrap64 (wrap64 (3 * mx (mn x 100000) 1) + 1)) (wrap64_le _) c2
  obtain ⟨o, i4, h4, e4, c4⟩ := l1Once_ok h3 12 (by omega) c3
  by_cases co : o = true
  · obtain ⟨p, i5, h5, e5, hp, c5⟩ := l1PickInt_ok h4 [9223372036854775807, (-9223372036854775807), (-1)] (by simp) (by simp) c4
    refine ⟨(n, d, x, p), Ev.bind hn ?_⟩
    simp only [e1, e2, l1Min_eq, l1Max_eq, e3, e4, co, if_true, e5, Option.bind_some]
    exact Ev.now _
  · refine ⟨(n, d, x, wrap64 (y - 5)), Ev.bind hn ?_⟩
    simp only [e1, e2, l1Min_eq, l1Max_eq, e3, e4, co, if_false, Option.bind_some]
    exact Ev.now _
theorem clamp_val {n d b w : Int} (h : (clamp n d b w).2 = true) : (clamp n d b w).1 = mx (leastC n d b) (mn (mostC n d b) w) := by
  unfold clamp at h ⊢
  by_cases c : (cts n d b).2.2 = true
  · rw [if_pos c]
    obtain ⟨h1, h2, e1, e2, h3⟩ := cts_in c
    rw [e1, e2]
  · rw [if_neg c] at h
    simp at h
theorem clamp_bd2 {n d b w : Int} (h : (clamp n d b w).2 = true) : dOk n d = true ∧ tOk b = true ∧ leastC n d b ≤ (clamp n d b w).1 ∧ (clamp n d b w).1 ≤ mostC n d b ∧ mostC n d b ≤ 1000000000000 ∧ 0 ≤ (clamp n d b w).1 := by
  rw [clamp_val h]
  unfold clamp at h
  by_cases c : (cts n d b).2.2 = true
  · obtain ⟨h1, h2, e1, e2, h3⟩ := cts_in c
    have b1 := leastC_bd h1 h2
    have b2 := mostC_bd h1 h2
    refine ⟨h1, h2, ?_, ?_, h3, ?_⟩ <;> (unfold mx mn; omega)
  · rw [if_neg c] at h
    simp at h
theorem stretch_j0 (l : List Int) (t w n d : Int) (hc : (clamp n d t w).2 = true) : Ev (fun k => laws_FnStretches.j0 k l t (clamp n d t w).1 false n d) true := by
  obtain ⟨p, hp⟩ := at_ok l 4 (by omega)
  obtain ⟨q, hq⟩ := at_ok l 5 (by omega)
  refine Ev.step (fun k => by simp only [laws_FnStretches.j0]; rfl) ?_
  simp only [Bool.false_eq_true, if_false, hp, hq, iClamp_eq, iMay_eq, Option.bind_some]
  by_cases c2 : (clamp n d p q).2 = true
  · simp only [c2, if_true]
    obtain ⟨a1, a2, a3, a4, a5, a6⟩ := clamp_bd2 hc
    obtain ⟨b1, b2, b3, b4, b5, b6⟩ := clamp_bd2 c2
    have g2 := tOk_iff.1 a2
    have g3 := tOk_iff.1 b2
    rw [w64 (x := t + p) (by omega) (by omega), w64 (x := (clamp n d t w).1 + (clamp n d p q).1) (by omega) (by omega)]
    by_cases c3 : t + p > 1000000000000
    · simp only [c3, if_true]
      exact Ev.now true
    · by_cases c4 : (clamp n d t w).1 + (clamp n d p q).1 > 1000000000000
      · simp only [c3, c4, if_true, if_false]
        exact Ev.now true
      · simp only [c3, c4, if_false]
        have m1 := (mayC_C a1 a2).2 ⟨tOk_iff.2 (show 0 ≤ (clamp n d t w).1 ∧ (clamp n d t w).1 ≤ 1000000000000 by omega), a3, a4⟩
        have m2 := (mayC_C b1 b2).2 ⟨tOk_iff.2 (show 0 ≤ (clamp n d p q).1 ∧ (clamp n d p q).1 ≤ 1000000000000 by omega), b3, b4⟩
        have m3 : mayC n d (t + p) ((clamp n d t w).1 + (clamp n d p q).1) = true := by
          unfold mayC at m1 m2 ⊢
          rw [Bool.and_eq_true, Bool.and_eq_true, Bool.and_eq_true, Bool.and_eq_true, decide_eq_true_iff, decide_eq_true_iff] at m1 m2 ⊢
          rw [Int.add_mul, Int.add_mul, Int.add_mul]
          exact ⟨a1, tOk_iff.2 (by omega), tOk_iff.2 (by omega), by omega, by omega⟩
        rw [m3]
        exact Ev.now true
  · simp only [c2, if_false]
    exact Ev.now true
theorem FnStretches (l0 : List Int) (_h : ∀ x ∈ l0, (Lit.int .u8 x).wf = true) (_hm : l0.length ≤ 9223372036854775807) : ∃ k, laws_FnStretches.f k l0 = some true := by
  apply Ev.rounds
  unfold laws_FnStretches.f
  simp only [big_eq, Option.bind_some]
  by_cases c : (l0.length : Int) > 1048576
  · simp only [c, decide_true, if_true]
    exact Ev.now true
  · simp only [c, decide_false, Bool.false_eq_true, if_false]
    obtain ⟨⟨n, d, t, w⟩, hr⟩ := DrawClamp_ev l0 (by omega)
    refine Ev.bind hr ?_
    simp only [iClamp_eq, Option.bind_some]
    refine Ev.bind (ev1 fun k => sClamp_eq k _ _ _ _) ?_
    simp only [bne_self_eq_false, Bool.false_eq_true, if_false, iMay_eq, iDriftOk_eq, Option.bind_some]
    by_cases cc : (clamp n d t w).2 = true
    · have hv := clamp_val cc
      have hj := stretch_j0 l0 t w n d cc
      obtain ⟨a1, a2, a3, a4, a5, a6⟩ := clamp_bd2 cc
      have b1 := leastC_bd a1 a2
      have b2 := mostC_bd a1 a2
      have m1 := (mayC_C a1 a2).2 ⟨tOk_iff.2 (show 0 ≤ (clamp n d t w).1 ∧ (clamp n d t w).1 ≤ 1000000000000 by omega), a3, a4⟩
      simp only [cc, if_true, m1]
      by_cases c1 : w > (clamp n d t w).1
      · have e : mayC n d t (wrap64 ((clamp n d t w).1 + 1)) = false := by
          rw [Bool.eq_false_iff]
          intro hh
          rw [w64 (by omega) (by omega)] at hh
          have := ((mayC_C a1 a2).1 hh).2.2
          rw [hv] at this c1
          unfold mx mn at this c1
          omega
        simp only [c1, if_true, e, Bool.false_eq_true, if_false, show ¬ (w < (clamp n d t w).1) by omega]
        exact hj
      · by_cases c2 : w < (clamp n d t w).1
        · have e : mayC n d t (wrap64 ((clamp n d t w).1 - 1)) = false := by
            rw [Bool.eq_false_iff]
            intro hh
            rw [w64 (by omega) (by omega)] at hh
            have := ((mayC_C a1 a2).1 hh).2.1
            rw [hv] at this c2
            unfold mx mn at this c2
            omega
          simp only [c1, c2, if_true, if_false, e]
          exact hj
        · simp only [c1, c2, if_false]
          exact hj
    · simp only [cc, if_false, show decide ((1 : Int) ≤ 3 ∧ (3 : Int) ≤ 1000000 ∧ (0 : Int) ≤ 2 ∧ 2 * 2 ≤ (3 : Int)) = false by decide, show decide ((1 : Int) ≤ 2 ∧ (2 : Int) ≤ 1000000 ∧ (0 : Int) ≤ 1 ∧ 2 * 1 ≤ (2 : Int)) = true by decide, Bool.false_eq_true, if_false]
      exact Ev.now true

end Go.Proofs.Ytimikgeppdgpkaa.Pure
