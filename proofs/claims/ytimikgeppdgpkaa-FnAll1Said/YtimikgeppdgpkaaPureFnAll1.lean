/- The plain half of FnAll1: what the printed functions compute, over numbers and lists alone. No condition. -/
import Derived.Test.YtimikgeppdgpkaaXFnAll1x
import Derived.OpenShut
namespace Go.Proofs.Ytimikgeppdgpkaa.Pure
open Go.RowKit Go.Proofs.Ytimikgeppdgpkaa.XFnAll1 Go.Proofs.YtimikgeppdgpkaaW.PrintWords Go.Proofs.YtimikgeppdgpkaaW.PrintLast Go.Proofs.YtimikgeppdgpkaaW.PrintMore
set_option linter.unusedVariables false
set_option linter.unusedSimpArgs false
theorem wf64 {x : Int} (h : (Lit.int .i64 x).wf = true) : -9223372036854775808 ≤ x ∧ x ≤ 9223372036854775807 := by
  simp [Lit.wf, IntKind.min, IntKind.max, IntKind.signed, IntKind.bits] at h
  omega
theorem w64 {x : Int} (h1 : -9223372036854775808 ≤ x) (h2 : x ≤ 9223372036854775807) : wrap64 x = x := by
  unfold wrap64
  omega
theorem in_eq (a b c : Int) : impl_in.f a b c = some (decide (b ≤ a ∧ a ≤ c)) := by
  unfold impl_in.f
  by_cases h : b ≤ a <;> simp [h]
theorem l1In_eq (a b c : Int) : spec_l1In.f a b c = some (decide (b ≤ a ∧ a ≤ c)) := by
  unfold spec_l1In.f
  by_cases h : b ≤ a <;> simp [h]
theorem iIvalOk_eq (a b : Int) : impl_IvalOk.f a b = some (decide (-1000000000000 ≤ a ∧ a ≤ b ∧ b ≤ 1000000000000)) := by
  unfold impl_IvalOk.f
  by_cases h : -1000000000000 ≤ a <;> by_cases h2 : a ≤ b <;> simp [h, h2]
theorem sIvalOk_eq (a b : Int) : spec_IvalOk.f a b = some (decide (-1000000000000 ≤ a ∧ a ≤ b ∧ b ≤ 1000000000000)) := by
  unfold spec_IvalOk.f
  simp only [l1In_eq, Option.bind_some, decide_eq_true_eq]
  by_cases h : a ≤ b
  · rw [if_pos h]
    by_cases h2 : -1000000000000 ≤ a ∧ a ≤ 1000000000000
    · rw [if_pos h2]
      simp only [Option.some.injEq, decide_eq_decide]
      omega
    · rw [if_neg h2]
      simp only [Option.some.injEq]
      exact (decide_eq_false (by omega)).symm
  · rw [if_neg h]
    simp only [Option.some.injEq]
    exact (decide_eq_false (by omega)).symm
theorem told_eq (a b : Int) : spec_l1Told.f a b = some (if -1000000000000 ≤ a ∧ a ≤ b ∧ b ≤ 1000000000000 then (a, b, true) else (0, 0, false)) := by
  unfold spec_l1Told.f
  simp only [sIvalOk_eq, Option.bind_some, decide_eq_true_eq]
  split <;> rfl
theorem ival_eq (a b : Int) : impl_ival.f a b = some (if -1000000000000 ≤ a ∧ a ≤ b ∧ b ≤ 1000000000000 then (a, b, true) else (0, 0, false)) := by
  unfold impl_ival.f
  simp only [iIvalOk_eq, Option.bind_some, decide_eq_true_eq]
  split <;> rfl
theorem l1Max_eq (a b : Int) : spec_l1Max.f a b = some (mx a b) := by
  unfold spec_l1Max.f mx
  by_cases h : a > b
  · rw [if_pos h, if_neg (by omega)]
  · rw [if_neg h]
    by_cases h2 : a < b
    · rw [if_pos h2]
    · rw [if_neg h2]
      have : a = b := by omega
      rw [this]
theorem l1Min_eq (a b : Int) : spec_l1Min.f a b = some (mn a b) := by
  unfold spec_l1Min.f mn
  by_cases h : a < b
  · rw [if_pos h, if_neg (by omega)]
  · rw [if_neg h]
    by_cases h2 : b < a
    · rw [if_pos h2]
    · rw [if_neg h2]
      have : a = b := by omega
      rw [this]
/-- All of a list are bytes. -/
def U8s (l : List Int) : Prop := ∀ x ∈ l, (Lit.int .u8 x).wf = true
theorem u8s_rd {l : List Int} (h : U8s l) (i : Int) : 0 ≤ rd l i ∧ rd l i ≤ 255 := by
  unfold rd
  rw [List.getD_eq_getElem?_getD]
  rcases Nat.lt_or_ge i.toNat l.length with hi | hi
  · rw [List.getElem?_eq_getElem hi]
    exact Go.bounds_u8 (h _ (List.getElem_mem hi))
  · rw [List.getElem?_eq_none hi]
    decide
theorem rd_nat (l : List Int) (i : Nat) (hi : i < l.length) : rd l (i : Int) = l[i] := by
  unfold rd
  rw [List.getD_eq_getElem?_getD]
  simp [List.getElem?_eq_getElem hi]
/-- A cursor's place. -/
def Cu (b : List Int) (i : Int) : Prop := 0 ≤ i ∧ i ≤ b.length ∧ b.length ≤ 1048576
theorem and255_in (y : Int) : 0 ≤ Go.bits .and .i64 y 255 ∧ Go.bits .and .i64 y 255 ≤ 255 := by
  have e : Go.bits .and .i64 y 255 = IntKind.i64.wrap ((BitVec.ofInt 64 y &&& BitVec.ofInt 64 255).toNat : Int) := rfl
  have h1 : (BitVec.ofInt 64 y &&& BitVec.ofInt 64 255).toNat ≤ 255 := by
    rw [BitVec.toNat_and]
    exact Nat.le_trans Nat.and_le_right (by decide)
  have h2 : IntKind.i64.wrap ((BitVec.ofInt 64 y &&& BitVec.ofInt 64 255).toNat : Int) = ((BitVec.ofInt 64 y &&& BitVec.ofInt 64 255).toNat : Int) := by
    rw [IntKind.wrap_i64]
    omega
  rw [e, h2]
  omega
theorem l1Byte_ok {b : List Int} {i : Int} (h : Int) (hc : Cu b i) : ∃ x i' h', spec_l1Byte.f b i h = some (x, i', h') ∧ (0 ≤ x ∧ x ≤ 255) ∧ Cu b i' := by
  obtain ⟨h0, h1, h2⟩ := hc
  unfold spec_l1Byte.f
  by_cases c : i < (b.length : Int)
  · rw [if_pos c, if_pos h0]
    exact ⟨_, _, _, rfl, and255_in _, by rw [w64 (by omega) (by omega)]; exact ⟨by omega, by omega, h2⟩⟩
  · rw [if_neg c]
    exact ⟨_, _, _, rfl, and255_in _, h0, h1, h2⟩
theorem l1Below_ok {b : List Int} {i : Int} (h n : Int) (hn : n ≤ 9223372036854775807) (hc : Cu b i) : ∃ x i' h', spec_l1Below.f b i h n = some (x, i', h') ∧ 0 ≤ x ∧ (0 < n → x < n) ∧ (n ≤ 0 → x = 0) ∧ x ≤ 4294967295 ∧ Cu b i' := by
  unfold spec_l1Below.f
  by_cases c : n ≤ 0
  · rw [if_pos c]
    exact ⟨_, _, _, rfl, by omega, by omega, fun _ => rfl, by omega, hc⟩
  · rw [if_neg c]
    by_cases c2 : n ≤ 256
    · rw [if_pos c2]
      obtain ⟨x, i', h', e, hx, hc'⟩ := l1Byte_ok h hc
      rw [e]
      simp only [Option.bind_some, if_neg (show ¬ (n = 0) by omega)]
      rw [Int.tmod_eq_emod_of_nonneg hx.1]
      have h1 := Int.emod_nonneg x (show n ≠ 0 by omega)
      have h2 := Int.emod_lt_of_pos x (show 0 < n by omega)
      exact ⟨_, _, _, rfl, h1, fun _ => h2, by omega, by omega, hc'⟩
    · rw [if_neg c2]
      obtain ⟨x, i1, h1, e1, hx, hc1⟩ := l1Byte_ok h hc
      obtain ⟨y, i2, h2, e2, hy, hc2⟩ := l1Byte_ok h1 hc1
      obtain ⟨z, i3, h3, e3, hz, hc3⟩ := l1Byte_ok h2 hc2
      obtain ⟨w, i4, h4, e4, hw, hc4⟩ := l1Byte_ok h3 hc3
      rw [e1]
      simp only [Option.bind_some]
      rw [e2]
      simp only [Option.bind_some]
      rw [e3]
      simp only [Option.bind_some]
      rw [e4]
      simp only [Option.bind_some, if_neg (show ¬ (n = 0) by omega)]
      have ew : wrap64 (wrap64 (wrap64 (wrap64 (x * 16777216) + wrap64 (y * 65536)) + wrap64 (z * 256)) + w) = x * 16777216 + y * 65536 + z * 256 + w := by
        rw [w64 (x := x * 16777216) (by omega) (by omega), w64 (x := y * 65536) (by omega) (by omega), w64 (x := z * 256) (by omega) (by omega), w64 (x := x * 16777216 + y * 65536) (by omega) (by omega), w64 (x := x * 16777216 + y * 65536 + z * 256) (by omega) (by omega), w64 (by omega) (by omega)]
      rw [ew, Int.tmod_eq_emod_of_nonneg (by omega)]
      have g1 := Int.emod_nonneg (x * 16777216 + y * 65536 + z * 256 + w) (show n ≠ 0 by omega)
      have g2 := Int.emod_lt_of_pos (x * 16777216 + y * 65536 + z * 256 + w) (show 0 < n by omega)
      have g3 : (x * 16777216 + y * 65536 + z * 256 + w) % n ≤ x * 16777216 + y * 65536 + z * 256 + w := by
        have q1 := Int.emod_add_mul_ediv (x * 16777216 + y * 65536 + z * 256 + w) n
        have q2 : 0 ≤ n * ((x * 16777216 + y * 65536 + z * 256 + w) / n) := Int.mul_nonneg (by omega) (Int.ediv_nonneg (by omega) (by omega))
        omega
      exact ⟨_, _, _, rfl, g1, fun _ => g2, by omega, by omega, hc4⟩
theorem l1New_l0 (b : List Int) (hl : b.length ≤ 1048576) (d : Nat) : ∀ (i : Nat) (x : Int), i + d = b.length → ∃ h, Ev (fun k => spec_l1New.l0 k b x (i : Int)) (b, 0, h) := by
  induction d with
  | zero =>
    intro i x hi
    refine ⟨x, Ev.step (fun k => by simp only [spec_l1New.l0]; rfl) ?_⟩
    simp only [show ¬ ((i : Int) < (b.length : Int)) by omega, if_false]
    exact Ev.now _
  | succ d ih =>
    intro i x hi
    by_cases c : (i : Int) < 4000
    · obtain ⟨h, hh⟩ := ih (i + 1) (Go.bits .and .i64 (wrap64 ((wrap64 ((wrap64 (x * 131)) + (wrap64 (rd b (i : Int))))) + 7)) 1073741823) (by omega)
      refine ⟨h, Ev.step (fun k => by simp only [spec_l1New.l0]; rfl) ?_⟩
      simp only [show (i : Int) < (b.length : Int) by omega, c, show (0 : Int) ≤ (i : Int) by omega, if_true]
      rw [w64 (x := (i : Int) + 1) (by omega) (by omega)]
      exact hh
    · refine ⟨x, Ev.step (fun k => by simp only [spec_l1New.l0]; rfl) ?_⟩
      simp only [show (i : Int) < (b.length : Int) by omega, c, if_true, if_false]
      exact Ev.now _
theorem l1New_ev (b : List Int) (hl : b.length ≤ 1048576) : ∃ h, Ev (fun k => spec_l1New.f k b) (b, 0, h) := by
  unfold spec_l1New.f
  exact l1New_l0 b hl b.length 0 _ (by omega)
theorem cu0 {b : List Int} (hl : b.length ≤ 1048576) : Cu b 0 := ⟨by omega, by omega, hl⟩
theorem l1PickInt_ok {b : List Int} {i : Int} (h : Int) (l : List Int) (hl0 : 0 < l.length) (hl1 : l.length ≤ 256) (hc : Cu b i) : ∃ x i' h', spec_l1PickInt.f b i h l = some (x, i', h') ∧ x ∈ l ∧ Cu b i' := by
  unfold spec_l1PickInt.f
  obtain ⟨x, i', h', e, hx0, hx1, _, _, hc'⟩ := l1Below_ok h (l.length : Int) (by omega) hc
  rw [e]
  have := hx1 (by omega)
  simp only [Option.bind_some, if_pos hx0, if_pos this]
  refine ⟨_, _, _, rfl, ?_, hc'⟩
  unfold rd
  rw [List.getD_eq_getElem?_getD, List.getElem?_eq_getElem (by omega)]
  exact List.getElem_mem _
theorem l1DrawTime_ok {b : List Int} {i : Int} (h : Int) (hc : Cu b i) : ∃ x i' h', spec_l1DrawTime.f b i h = some (x, i', h') ∧ (-1000000000000 ≤ x ∧ x ≤ 1000000000000) ∧ Cu b i' := by
  unfold spec_l1DrawTime.f
  obtain ⟨x, i', h', e, hx0, hx1, _, _, hc'⟩ := l1Below_ok h 12 (by omega) hc
  rw [e]
  simp only [Option.bind_some]
  by_cases c0 : x = 0
  · rw [if_pos c0]
    obtain ⟨y, i2, h2, e2, hy, hc2⟩ := l1PickInt_ok h' [(-1000000000000), 1000000000000, 999999999999, (-999999999999), 0] (by simp) (by simp) hc'
    rw [e2]
    refine ⟨_, _, _, rfl, ?_, hc2⟩
    simp at hy
    omega
  · rw [if_neg c0]
    by_cases c1 : x = 1
    · rw [if_pos c1]
      obtain ⟨y, i2, h2, e2, hy0, hy1, _, _, hc2⟩ := l1Below_ok h' 1000000000 (by omega) hc'
      rw [e2]
      simp only [Option.bind_some]
      obtain ⟨z, i3, h3, e3, hz, hc3⟩ := l1PickInt_ok h2 [1, (-1), 900] (by simp) (by simp) hc2
      rw [e3]
      refine ⟨_, _, _, rfl, ?_, hc3⟩
      have := hy1 (by omega)
      simp at hz
      rcases hz with rfl | rfl | rfl <;> (rw [w64 (by omega) (by omega)]; omega)
    · rw [if_neg c1]
      obtain ⟨y, i2, h2, e2, hy0, hy1, _, _, hc2⟩ := l1Below_ok h' 120 (by omega) hc'
      rw [e2]
      have := hy1 (by omega)
      refine ⟨_, _, _, rfl, ?_, hc2⟩
      rw [w64 (by omega) (by omega)]
      omega

abbrev IV := S30
theorem rdI_nat (l : List IV) (i : Nat) (hi : i < l.length) : rd_T30 l (i : Int) = l[i] := by
  unfold rd_T30
  rw [List.getD_eq_getElem?_getD]
  simp [List.getElem?_eq_getElem hi]
def ok2 (a b : Int) : Bool := decide (-1000000000000 ≤ a ∧ a ≤ b ∧ b ≤ 1000000000000)
theorem ok2_iff {a b : Int} : ok2 a b = true ↔ -1000000000000 ≤ a ∧ a ≤ b ∧ b ≤ 1000000000000 := by unfold ok2; exact decide_eq_true_iff
def ivOk (x : IV) : Bool := ok2 x.f0 x.f1
def told2 (a b : Int) : Int × Int × Bool := if ok2 a b = true then (a, b, true) else (0, 0, false)
def mFold (lo hi : Int) : List IV → Int × Int × Bool
  | [] => told2 lo hi
  | x :: l => if ivOk x = true then mFold (mx lo x.f0) (mn hi x.f1) l else (0, 0, false)
def jFold (lo hi : Int) : List IV → Int × Int × Bool
  | [] => told2 lo hi
  | x :: l => if ivOk x = true then jFold (mn lo x.f0) (mx hi x.f1) l else (0, 0, false)
/-- What MeetAll and JoinAll tell. -/
def meetAll (l : List IV) : Int × Int × Bool := if 1 ≤ l.length ∧ l.length ≤ 64 then mFold (rd_T30 l 0).f0 (rd_T30 l 0).f1 l else (0, 0, false)
def joinAll (l : List IV) : Int × Int × Bool := if 1 ≤ l.length ∧ l.length ≤ 64 then jFold (rd_T30 l 0).f0 (rd_T30 l 0).f1 l else (0, 0, false)
theorem mFold_bad (l : List IV) : ∀ lo hi, (∃ x ∈ l, ivOk x = false) → mFold lo hi l = (0, 0, false) := by
  induction l with
  | nil => intro lo hi h; obtain ⟨x, hx, _⟩ := h; simp at hx
  | cons y l ih =>
    intro lo hi h
    rw [mFold]
    by_cases c : ivOk y = true
    · rw [if_pos c]
      obtain ⟨x, hx, hb⟩ := h
      rcases List.mem_cons.1 hx with rfl | hx
      · rw [c] at hb
        cases hb
      · exact ih _ _ ⟨x, hx, hb⟩
    · rw [if_neg c]
theorem jFold_bad (l : List IV) : ∀ lo hi, (∃ x ∈ l, ivOk x = false) → jFold lo hi l = (0, 0, false) := by
  induction l with
  | nil => intro lo hi h; obtain ⟨x, hx, _⟩ := h; simp at hx
  | cons y l ih =>
    intro lo hi h
    rw [jFold]
    by_cases c : ivOk y = true
    · rw [if_pos c]
      obtain ⟨x, hx, hb⟩ := h
      rcases List.mem_cons.1 hx with rfl | hx
      · rw [c] at hb
        cases hb
      · exact ih _ _ ⟨x, hx, hb⟩
    · rw [if_neg c]
theorem mFold_empty (l : List IV) : ∀ lo hi, hi < lo → mFold lo hi l = (0, 0, false) := by
  induction l with
  | nil =>
    intro lo hi h
    rw [mFold, told2, if_neg]
    rw [ok2_iff]
    omega
  | cons y l ih =>
    intro lo hi h
    rw [mFold]
    split
    · exact ih _ _ (by unfold mx mn; omega)
    · rfl
theorem iMeet_l0 (l : List IV) (hl : l.length ≤ 64) (d : Nat) : ∀ (i : Nat) (lo hi : Int), i + d = l.length → Ev (fun k => impl_folded_102.l0 k l (l.length : Int) (i : Int) lo hi) (mFold lo hi (l.drop i)) := by
  induction d with
  | zero =>
    intro i lo hi h
    refine Ev.step (fun k => by simp only [impl_folded_102.l0]; rfl) ?_
    simp only [show ¬ ((i : Int) < (l.length : Int)) by omega, if_false, ival_eq, Option.bind_some]
    rw [List.drop_eq_nil_of_le (by omega), mFold]
    have e : told2 lo hi = if -1000000000000 ≤ lo ∧ lo ≤ hi ∧ hi ≤ 1000000000000 then (lo, hi, true) else (0, 0, false) := by
      unfold told2
      simp only [ok2_iff]
    rw [e]
    exact Ev.now _
  | succ d ih =>
    intro i lo hi h
    refine Ev.step (fun k => by simp only [impl_folded_102.l0]; rfl) ?_
    simp only [show (i : Int) < (l.length : Int) by omega, show (0 : Int) ≤ (i : Int) by omega, if_true, iIvalOk_eq, Option.bind_some]
    rw [rdI_nat l i (by omega), List.drop_eq_getElem_cons (show i < l.length by omega), mFold, w64 (by omega) (by omega)]
    change Ev (fun k => if ivOk (l[i]'(by omega)) = true then _ else _) _
    by_cases c : ivOk (l[i]'(by omega)) = true
    · simp only [c, if_true, impl_MeetAll_1.f, Option.bind_some]
      exact ih (i + 1) _ _ (by omega)
    · simp only [c, if_false]
      exact Ev.now _
theorem iMeetAll_ev (l : List IV) : Ev (fun k => impl_MeetAll.f k l) (meetAll l) := by
  unfold impl_MeetAll.f impl_folded_102.f meetAll
  simp only [in_eq, Option.bind_some, decide_eq_true_eq]
  by_cases c : 1 ≤ l.length ∧ l.length ≤ 64
  · rw [if_pos c]
    simp only [show (1 : Int) ≤ (l.length : Int) ∧ (l.length : Int) ≤ 64 by omega, show (0 : Int) < (l.length : Int) by omega, and_self, if_true]
    refine Ev.bind (a := mFold (rd_T30 l 0).f0 (rd_T30 l 0).f1 l) ?_ (Ev.now _)
    have := iMeet_l0 l c.2 l.length 0 (rd_T30 l 0).f0 (rd_T30 l 0).f1 (by omega)
    simpa using this
  · rw [if_neg c]
    simp only [show ¬ ((1 : Int) ≤ (l.length : Int) ∧ (l.length : Int) ≤ 64) by omega, if_false, Option.bind_some]
    exact Ev.now _
theorem iJoin_l0 (l : List IV) (hl : l.length ≤ 64) (d : Nat) : ∀ (i : Nat) (lo hi : Int), i + d = l.length → Ev (fun k => impl_folded_101.l0 k l (l.length : Int) (i : Int) lo hi) (jFold lo hi (l.drop i)) := by
  induction d with
  | zero =>
    intro i lo hi h
    refine Ev.step (fun k => by simp only [impl_folded_101.l0]; rfl) ?_
    simp only [show ¬ ((i : Int) < (l.length : Int)) by omega, if_false, ival_eq, Option.bind_some]
    rw [List.drop_eq_nil_of_le (by omega), jFold]
    have e : told2 lo hi = if -1000000000000 ≤ lo ∧ lo ≤ hi ∧ hi ≤ 1000000000000 then (lo, hi, true) else (0, 0, false) := by
      unfold told2
      simp only [ok2_iff]
    rw [e]
    exact Ev.now _
  | succ d ih =>
    intro i lo hi h
    refine Ev.step (fun k => by simp only [impl_folded_101.l0]; rfl) ?_
    simp only [show (i : Int) < (l.length : Int) by omega, show (0 : Int) ≤ (i : Int) by omega, if_true, iIvalOk_eq, Option.bind_some]
    rw [rdI_nat l i (by omega), List.drop_eq_getElem_cons (show i < l.length by omega), jFold, w64 (by omega) (by omega)]
    change Ev (fun k => if ivOk (l[i]'(by omega)) = true then _ else _) _
    by_cases c : ivOk (l[i]'(by omega)) = true
    · simp only [c, if_true, impl_JoinAll_1.f, Option.bind_some]
      exact ih (i + 1) _ _ (by omega)
    · simp only [c, if_false]
      exact Ev.now _
theorem iJoinAll_ev (l : List IV) : Ev (fun k => impl_JoinAll.f k l) (joinAll l) := by
  unfold impl_JoinAll.f impl_folded_101.f joinAll
  simp only [in_eq, Option.bind_some, decide_eq_true_eq]
  by_cases c : 1 ≤ l.length ∧ l.length ≤ 64
  · rw [if_pos c]
    simp only [show (1 : Int) ≤ (l.length : Int) ∧ (l.length : Int) ≤ 64 by omega, show (0 : Int) < (l.length : Int) by omega, and_self, if_true]
    refine Ev.bind (a := jFold (rd_T30 l 0).f0 (rd_T30 l 0).f1 l) ?_ (Ev.now _)
    have := iJoin_l0 l c.2 l.length 0 (rd_T30 l 0).f0 (rd_T30 l 0).f1 (by omega)
    simpa using this
  · rw [if_neg c]
    simp only [show ¬ ((1 : Int) ≤ (l.length : Int) ∧ (l.length : Int) ≤ 64) by omega, if_false, Option.bind_some]
    exact Ev.now _
def meet2 (a b c d : Int) : Int × Int × Bool := if ok2 a b = true ∧ ok2 c d = true then told2 (mx a c) (mn b d) else (0, 0, false)
def join2 (a b c d : Int) : Int × Int × Bool := if ok2 a b = true ∧ ok2 c d = true then told2 (mn a c) (mx b d) else (0, 0, false)
theorem told2_eq (a b : Int) : spec_l1Told.f a b = some (told2 a b) := by
  rw [told_eq]
  unfold told2
  simp only [ok2_iff]
theorem sMeet_eq (k : Nat) (a b c d : Int) : spec_Meet.f (k + 1) a b c d = some (meet2 a b c d) := by
  unfold spec_Meet.f meet2
  simp only [sIvalOk_eq, Option.bind_some, spec_Meet.j0, l1Max_eq, l1Min_eq, told2_eq]
  change (if ok2 a b = true then (if (!ok2 c d) = true then _ else _) else _) = _
  by_cases c1 : ok2 a b = true <;> by_cases c2 : ok2 c d = true <;> simp [c1, c2]
theorem told2_eqJ (a b : Int) : spec_l1Told.f a b = some (told2 a b) := by
  rw [told_eq]
  unfold told2
  simp only [ok2_iff]
theorem sJoin_eq (k : Nat) (a b c d : Int) : spec_Join.f (k + 1) a b c d = some (join2 a b c d) := by
  unfold spec_Join.f join2
  simp only [sIvalOk_eq, Option.bind_some, spec_Join.j0, l1Max_eq, l1Min_eq, told2_eqJ]
  change (if ok2 a b = true then (if (!ok2 c d) = true then _ else _) else _) = _
  by_cases c1 : ok2 a b = true <;> by_cases c2 : ok2 c d = true <;> simp [c1, c2]
theorem sAll_l0 (l : List IV) (hl : l.length ≤ 64) (d : Nat) : ∀ (i : Nat), i + d = l.length → Ev (fun k => spec_l1All.l0 k l (i : Int)) ((l.drop i).all ivOk) := by
  induction d with
  | zero =>
    intro i h
    refine Ev.step (fun k => by simp only [spec_l1All.l0]; rfl) ?_
    simp only [show ¬ ((i : Int) < (l.length : Int)) by omega, if_false]
    rw [List.drop_eq_nil_of_le (by omega)]
    exact Ev.now _
  | succ d ih =>
    intro i h
    refine Ev.step (fun k => by simp only [spec_l1All.l0]; rfl) ?_
    simp only [show (i : Int) < (l.length : Int) by omega, show (0 : Int) ≤ (i : Int) by omega, if_true, sIvalOk_eq, Option.bind_some]
    rw [rdI_nat l i (by omega), List.drop_eq_getElem_cons (show i < l.length by omega), List.all_cons, w64 (by omega) (by omega)]
    change Ev (fun k => if ivOk (l[i]'(by omega)) = true then _ else _) _
    by_cases c : ivOk (l[i]'(by omega)) = true
    · simp only [c, if_true, Bool.true_and]
      exact ih (i + 1) (by omega)
    · rw [Bool.not_eq_true] at c
      simp only [c, Bool.false_eq_true, if_false, Bool.false_and]
      exact Ev.now _
theorem sAll_ev (l : List IV) : Ev (fun k => spec_l1All.f k l 64) (decide (l.length ≤ 64) && l.all ivOk) := by
  unfold spec_l1All.f
  by_cases c : (l.length : Int) > 64
  · simp only [c, if_true, show ¬ (l.length ≤ 64) by omega, decide_false, Bool.false_and]
    exact Ev.now _
  · simp only [c, if_false, show l.length ≤ 64 by omega, decide_true, Bool.true_and]
    have := sAll_l0 l (by omega) l.length 0 (by omega)
    simpa using this
theorem sMeet_l0 (l : List IV) (hl : l.length ≤ 64) (hok : l.all ivOk = true) (d : Nat) : ∀ (i : Nat) (lo hi : Int), i + d = l.length → ok2 lo hi = true → Ev (fun k => spec_MeetAll.l0 k l (i : Int) lo hi) (mFold lo hi (l.drop i)) := by
  induction d with
  | zero =>
    intro i lo hi h ho
    refine Ev.step (fun k => by simp only [spec_MeetAll.l0]; rfl) ?_
    simp only [show ¬ ((i : Int) < (l.length : Int)) by omega, if_false]
    rw [List.drop_eq_nil_of_le (by omega), mFold, told2, if_pos ho]
    exact Ev.now _
  | succ d ih =>
    intro i lo hi h ho
    refine Ev.step (fun k => by simp only [spec_MeetAll.l0]; rfl) ?_
    simp only [show (i : Int) < (l.length : Int) by omega, show (0 : Int) ≤ (i : Int) by omega, if_true]
    have hx : ivOk (l[i]'(by omega)) = true := List.all_eq_true.1 hok _ (List.getElem_mem _)
    rw [rdI_nat l i (by omega), List.drop_eq_getElem_cons (show i < l.length by omega), mFold, if_pos hx, w64 (by omega) (by omega)]
    refine Ev.bind (a := meet2 lo hi (l[i]'(by omega)).f0 (l[i]'(by omega)).f1) ⟨1, fun k hk => by obtain ⟨m, rfl⟩ : ∃ m, k = m + 1 := ⟨k - 1, by omega⟩; exact sMeet_eq m _ _ _ _⟩ ?_
    unfold ivOk at hx
    unfold meet2
    rw [if_pos ⟨ho, hx⟩]
    have g1 := ok2_iff.1 ho
    have g2 := ok2_iff.1 hx
    unfold told2
    by_cases c : mx lo (l[i]'(by omega)).f0 ≤ mn hi (l[i]'(by omega)).f1
    · have hc : ok2 (mx lo (l[i]'(by omega)).f0) (mn hi (l[i]'(by omega)).f1) = true := ok2_iff.2 ⟨by unfold mx; omega, c, by unfold mn; omega⟩
      rw [if_pos hc]
      simp only [if_true]
      exact ih (i + 1) _ _ (by omega) hc
    · have hc : ¬ ok2 (mx lo (l[i]'(by omega)).f0) (mn hi (l[i]'(by omega)).f1) = true := fun hh => c (ok2_iff.1 hh).2.1
      rw [if_neg hc, mFold_empty _ _ _ (by omega)]
      simp only [Bool.false_eq_true, if_false]
      exact Ev.now _
theorem all_false {l : List IV} (h : l.all ivOk = false) : ∃ x ∈ l, ivOk x = false := by
  rw [List.all_eq_false] at h
  obtain ⟨x, hx, hb⟩ := h
  exact ⟨x, hx, by simpa using hb⟩
theorem mFold_first (x : IV) (l : List IV) (h : ivOk x = true) : mFold x.f0 x.f1 (x :: l) = mFold x.f0 x.f1 l := by
  rw [mFold, if_pos h]
  congr 1
  · unfold mx
    split <;> rfl
  · unfold mn
    split <;> rfl
theorem sMeetAll_ev (l : List IV) : Ev (fun k => spec_MeetAll.f k l) (meetAll l) := by
  unfold spec_MeetAll.f meetAll
  by_cases c0 : (l.length : Int) = 0
  · simp only [c0, if_true]
    rw [if_neg (by omega)]
    refine Ev.step (fun k => by simp only [spec_MeetAll.j0]; rfl) ?_
    simp only [if_true]
    exact Ev.now _
  · simp only [c0, if_false]
    refine Ev.bind (sAll_ev l) ?_
    refine Ev.step (fun k => by simp only [spec_MeetAll.j0]; rfl) ?_
    by_cases c1 : l.length ≤ 64
    · rw [if_pos ⟨by omega, c1⟩]
      cases c2 : l.all ivOk with
      | true =>
        simp only [c1, decide_true, Bool.and_self, Bool.not_true, Bool.false_eq_true, if_false, show (0 : Int) < (l.length : Int) by omega, if_true]
        cases l with
        | nil => simp at c0
        | cons x r =>
          have hx : ivOk x = true := List.all_eq_true.1 c2 x List.mem_cons_self
          have e0 : rd_T30 (x :: r) 0 = x := rfl
          rw [e0, mFold_first x r hx]
          have := sMeet_l0 (x :: r) c1 c2 r.length 1 x.f0 x.f1 (by rw [List.length_cons]; omega) hx
          simpa using this
      | false =>
        simp only [Bool.and_false, Bool.not_false, if_true]
        rw [mFold_bad _ _ _ (all_false c2)]
        exact Ev.now _
    · rw [if_neg (by omega)]
      simp only [c1, decide_false, Bool.false_and, Bool.not_false, if_true]
      exact Ev.now _
theorem sJoin_l0 (l : List IV) (hl : l.length ≤ 64) (hok : l.all ivOk = true) (d : Nat) : ∀ (i : Nat) (lo hi : Int), i + d = l.length → ok2 lo hi = true → Ev (fun k => spec_JoinAll.l0 k l (i : Int) lo hi) (jFold lo hi (l.drop i)) := by
  induction d with
  | zero =>
    intro i lo hi h ho
    refine Ev.step (fun k => by simp only [spec_JoinAll.l0]; rfl) ?_
    simp only [show ¬ ((i : Int) < (l.length : Int)) by omega, if_false]
    rw [List.drop_eq_nil_of_le (by omega), jFold, told2, if_pos ho]
    exact Ev.now _
  | succ d ih =>
    intro i lo hi h ho
    refine Ev.step (fun k => by simp only [spec_JoinAll.l0]; rfl) ?_
    simp only [show (i : Int) < (l.length : Int) by omega, show (0 : Int) ≤ (i : Int) by omega, if_true]
    have hx : ivOk (l[i]'(by omega)) = true := List.all_eq_true.1 hok _ (List.getElem_mem _)
    rw [rdI_nat l i (by omega), List.drop_eq_getElem_cons (show i < l.length by omega), jFold, if_pos hx, w64 (by omega) (by omega)]
    refine Ev.bind (a := join2 lo hi (l[i]'(by omega)).f0 (l[i]'(by omega)).f1) ⟨1, fun k hk => by obtain ⟨m, rfl⟩ : ∃ m, k = m + 1 := ⟨k - 1, by omega⟩; exact sJoin_eq m _ _ _ _⟩ ?_
    unfold ivOk at hx
    unfold join2
    rw [if_pos ⟨ho, hx⟩]
    have g1 := ok2_iff.1 ho
    have g2 := ok2_iff.1 hx
    unfold told2
    have hc : ok2 (mn lo (l[i]'(by omega)).f0) (mx hi (l[i]'(by omega)).f1) = true := ok2_iff.2 ⟨by unfold mn; omega, by unfold mn mx; omega, by unfold mx; omega⟩
    rw [if_pos hc]
    exact ih (i + 1) _ _ (by omega) hc
theorem all_falseJ {l : List IV} (h : l.all ivOk = false) : ∃ x ∈ l, ivOk x = false := by
  rw [List.all_eq_false] at h
  obtain ⟨x, hx, hb⟩ := h
  exact ⟨x, hx, by simpa using hb⟩
theorem jFold_first (x : IV) (l : List IV) (h : ivOk x = true) : jFold x.f0 x.f1 (x :: l) = jFold x.f0 x.f1 l := by
  rw [jFold, if_pos h]
  congr 1
  · unfold mn
    split <;> rfl
  · unfold mx
    split <;> rfl
theorem sJoinAll_ev (l : List IV) : Ev (fun k => spec_JoinAll.f k l) (joinAll l) := by
  unfold spec_JoinAll.f joinAll
  by_cases c0 : (l.length : Int) = 0
  · simp only [c0, if_true]
    rw [if_neg (by omega)]
    refine Ev.step (fun k => by simp only [spec_JoinAll.j0]; rfl) ?_
    simp only [if_true]
    exact Ev.now _
  · simp only [c0, if_false]
    refine Ev.bind (sAll_ev l) ?_
    refine Ev.step (fun k => by simp only [spec_JoinAll.j0]; rfl) ?_
    by_cases c1 : l.length ≤ 64
    · rw [if_pos ⟨by omega, c1⟩]
      cases c2 : l.all ivOk with
      | true =>
        simp only [c1, decide_true, Bool.and_self, Bool.not_true, Bool.false_eq_true, if_false, show (0 : Int) < (l.length : Int) by omega, if_true]
        cases l with
        | nil => simp at c0
        | cons x r =>
          have hx : ivOk x = true := List.all_eq_true.1 c2 x List.mem_cons_self
          have e0 : rd_T30 (x :: r) 0 = x := rfl
          rw [e0, jFold_first x r hx]
          have := sJoin_l0 (x :: r) c1 c2 r.length 1 x.f0 x.f1 (by rw [List.length_cons]; omega) hx
          simpa using this
      | false =>
        simp only [Bool.and_false, Bool.not_false, if_true]
        rw [jFold_bad _ _ _ (all_falseJ c2)]
        exact Ev.now _
    · rw [if_neg (by omega)]
      simp only [c1, decide_false, Bool.false_and, Bool.not_false, if_true]
      exact Ev.now _
theorem l1Once_ok {b : List Int} {i : Int} (h n : Int) (hn : n ≤ 9223372036854775807) (hc : Cu b i) : ∃ x i' h', spec_l1Once.f b i h n = some (x, i', h') ∧ Cu b i' := by
  unfold spec_l1Once.f
  obtain ⟨x, i', h', e, _, _, _, _, hc'⟩ := l1Below_ok h n hn hc
  rw [e]
  exact ⟨_, _, _, rfl, hc'⟩
theorem l1Size_ok (l : List Int) (hl : l.length ≤ 1048576) (n : Int) : ∃ x, spec_l1Size.f l n = some x ∧ x ≤ n ∧ x ≤ 52431 ∧ (-1 ≤ n → -1 ≤ x) := by
  unfold spec_l1Size.f
  have h1 : (0 : Int) ≤ (l.length : Int) / 20 := by omega
  rw [w64 (x := (l.length : Int) / 20) (by omega) (by omega), w64 (by omega) (by omega)]
  by_cases c : 2 + (l.length : Int) / 20 > n
  · rw [if_pos c]
    exact ⟨_, rfl, by omega, by omega, by omega⟩
  · rw [if_neg c]
    exact ⟨_, rfl, by omega, by omega, by omega⟩
theorem big_eq (l : List Int) : laws_big.f l = some (decide ((l.length : Int) > 1048576)) := rfl
theorem wrap64_le (x : Int) : wrap64 x ≤ 9223372036854775807 := by unfold wrap64; omega
theorem iWithin_eq (a b c d : Int) : impl_Within.f a b c d = some (ok2 a b && (ok2 c d && decide (c ≤ a ∧ b ≤ d))) := by
  unfold impl_Within.f
  simp only [iIvalOk_eq, Option.bind_some]
  change (if ok2 a b = true then (if ok2 c d = true then _ else _) else _) = _
  by_cases c1 : ok2 a b = true
  · rw [if_pos c1, c1, Bool.true_and]
    by_cases c2 : ok2 c d = true
    · rw [if_pos c2, c2, Bool.true_and]
      by_cases c3 : c ≤ a
      · rw [if_pos c3]
        simp [c3]
      · rw [if_neg c3]
        simp [c3]
    · rw [if_neg c2]
      rw [Bool.not_eq_true] at c2
      rw [c2, Bool.false_and]
  · rw [if_neg c1]
    rw [Bool.not_eq_true] at c1
    rw [c1, Bool.false_and]
theorem l1DrawIval_ok {b : List Int} {i : Int} (h : Int) (hc : Cu b i) : ∃ x y i' h', spec_l1DrawIval.f b i h = some (x, y, i', h') ∧ Cu b i' := by
  unfold spec_l1DrawIval.f
  obtain ⟨x, i1, h1, e1, hx, c1⟩ := l1DrawTime_ok h hc
  obtain ⟨y, i2, h2, e2, hy0, hy1, _, _, c2⟩ := l1Below_ok h1 60 (by omega) c1
  obtain ⟨z, i3, h3, e3, hz0, hz1, _, _, c3⟩ := l1Below_ok h2 30 (by omega) c2
  simp only [e1, e2, e3, l1Min_eq, Option.bind_some]
  by_cases d0 : z = 0
  · rw [if_pos d0]
    exact ⟨_, _, _, _, rfl, c3⟩
  · rw [if_neg d0]
    by_cases d1 : z = 1
    · rw [if_pos d1]
      obtain ⟨p, i4, h4, e4, hp, c4⟩ := l1PickInt_ok h3 [1000000000000, 1000000000001, 9223372036854775807] (by simp) (by simp) c3
      simp only [e4, Option.bind_some]
      exact ⟨_, _, _, _, rfl, c4⟩
    · rw [if_neg d1]
      by_cases d2 : z = 2
      · rw [if_pos d2]
        obtain ⟨p, i4, h4, e4, hp, c4⟩ := l1PickInt_ok h3 [(-1000000000000), (-1000000000001), (-9223372036854775807)] (by simp) (by simp) c3
        simp only [e4, Option.bind_some]
        exact ⟨_, _, _, _, rfl, c4⟩
      · rw [if_neg d2]
        exact ⟨_, _, _, _, rfl, c3⟩
theorem l1DrawIvals_l0 {b : List Int} (x t : Int) (hx : x ≤ 1000000) (q : Nat) : ∀ (i : Int) (h : Int) (acc : List IV) (j : Nat), (x ≤ j ∨ x = j + q) → acc.length + q ≤ 2000000 → Cu b i → ∃ l i' h', Ev (fun k => spec_l1DrawIvals.l0 k x t acc (j : Int) b i h) (l, i', h') ∧ l.length ≤ acc.length + q ∧ Cu b i' := by
  induction q with
  | zero =>
    intro i h acc j hj ha hc
    refine ⟨acc, i, h, Ev.step (fun k => by simp only [spec_l1DrawIvals.l0]; rfl) ?_, Nat.le_refl _, hc⟩
    simp only [show ¬ ((j : Int) < x) by omega, if_false]
    exact Ev.now _
  | succ q ih =>
    intro i h acc j hj ha hc
    by_cases cj : (j : Int) < x
    · obtain ⟨p, i1, h1, e1, _, _, _, _, c1⟩ := l1Below_ok h 40 (by omega) hc
      obtain ⟨r, i2, h2, e2, _, _, _, _, c2⟩ := l1Below_ok h1 70 (by omega) c1
      have next : ∀ (v : IV) (i3 h3 : Int), Cu b i3 → ∃ l i' h', Ev (fun k => spec_l1DrawIvals.l0 k x t (acc ++ [v]) (wrap64 ((j : Int) + 1)) b i3 h3) (l, i', h') ∧ l.length ≤ acc.length + (q + 1) ∧ Cu b i' := by
        intro v i3 h3 c3
        obtain ⟨l, i2, h2, e2, hl, c2⟩ := ih i3 h3 (acc ++ [v]) (j + 1) (by omega) (by rw [List.length_append]; simp only [List.length_cons, List.length_nil]; omega) c3
        rw [w64 (x := (j : Int) + 1) (by omega) (by omega)]
        exact ⟨l, i2, h2, e2, by rw [List.length_append] at hl; simp only [List.length_cons, List.length_nil] at hl; omega, c2⟩
      have step : ∀ g : Nat → Option (List IV × Int × Int), (∃ l i' h', Ev g (l, i', h') ∧ l.length ≤ acc.length + (q + 1) ∧ Cu b i') → (∀ k, spec_l1DrawIvals.l0 (k + 1) x t acc (j : Int) b i h = g k) → ∃ l i' h', Ev (fun k => spec_l1DrawIvals.l0 k x t acc (j : Int) b i h) (l, i', h') ∧ l.length ≤ acc.length + (q + 1) ∧ Cu b i' := by
        rintro g ⟨l, i', h', e, hl, hc⟩ hg
        exact ⟨l, i', h', Ev.step hg e, hl, hc⟩
      refine step _ ?_ (fun k => by simp only [spec_l1DrawIvals.l0]; rfl)
      simp only [cj, if_true, e1, e2, told_eq, Option.bind_some, show acc.length < 8796093022208 by omega]
      generalize (if -1000000000000 ≤ wrap64 (t - p) ∧ wrap64 (t - p) ≤ wrap64 (wrap64 (t - p) + r) ∧ wrap64 (wrap64 (t - p) + r) ≤ 1000000000000 then (wrap64 (t - p), wrap64 (wrap64 (t - p) + r), true) else (0, 0, false)) = v
      by_cases cv : v.2.2 = true
      · simp only [cv, if_true]
        obtain ⟨o, i3, h3, e3, c3⟩ := l1Once_ok h2 25 (by omega) c2
        simp only [e3, Option.bind_some]
        by_cases co : o = true
        · simp only [co, if_true]
          obtain ⟨y, z, i4, h4, e4, c4⟩ := l1DrawIval_ok h3 c3
          simp only [e4, Option.bind_some]
          exact next _ _ _ c4
        · simp only [co, if_false]
          exact next _ _ _ c3
      · simp only [cv, if_false]
        obtain ⟨y, z, i4, h4, e4, c4⟩ := l1DrawIval_ok h2 c2
        simp only [e4, Option.bind_some]
        exact next _ _ _ c4
    · refine ⟨acc, i, h, Ev.step (fun k => by simp only [spec_l1DrawIvals.l0]; rfl) ?_, by omega, hc⟩
      simp only [cj, if_false]
      exact Ev.now _
theorem l1DrawIvals_ev {b : List Int} {i : Int} (h x : Int) (hx0 : -1000 ≤ x) (hx : x ≤ 900000) (hc : Cu b i) : ∃ l i' h', Ev (fun k => spec_l1DrawIvals.f k b i h x) (l, i', h') ∧ l.length ≤ 1000000 ∧ Cu b i' := by
  unfold spec_l1DrawIvals.f
  rw [w64 (x := x + 1) (by omega) (by omega)]
  obtain ⟨p, i1, h1, e1, hp0, hp1, hp2, _, c1⟩ := l1Below_ok h (x + 1) (by omega) hc
  obtain ⟨t, i2, h2, e2, _, c2⟩ := l1DrawTime_ok h1 c1
  simp only [e1, e2, Option.bind_some]
  obtain ⟨l, i3, h3, e3, hlen, c3⟩ := l1DrawIvals_l0 (b := b) p t (by omega) p.toNat i2 h2 [] 0 (by omega) (by simp only [List.length_nil]; omega) c2
  exact ⟨l, i3, h3, e3, by simp only [List.length_nil] at hlen; omega, c3⟩
theorem l1DrawList_l0 {b : List Int} (q : Nat) : ∀ (i h : Int) (acc : List IV) (j : Nat), j + q = 65 → acc.length + q ≤ 1000000 → Cu b i → ∃ r, Ev (fun k => spec_l1DrawList.l0 k acc (j : Int) b i h) r ∧ r.length ≤ acc.length + q := by
  induction q with
  | zero =>
    intro i h acc j hj ha hc
    obtain ⟨y, i1, h1, e1, hy0, hy1, _, _, c1⟩ := l1Below_ok h 2 (by omega) hc
    have := hy1 (by omega)
    refine ⟨acc, Ev.step (fun k => by simp only [spec_l1DrawList.l0]; rfl) ?_, Nat.le_add_right _ _⟩
    · simp only [e1, Option.bind_some]
      rw [w64 (x := 64 + y) (by omega) (by omega)]
      simp only [show ¬ ((j : Int) < 64 + y) by omega, if_false]
      exact Ev.now _
  | succ q ih =>
    intro i h acc j hj ha hc
    obtain ⟨y, i1, h1, e1, hy0, hy1, _, _, c1⟩ := l1Below_ok h 2 (by omega) hc
    have := hy1 (by omega)
    by_cases cj : (j : Int) < 64 + y
    · obtain ⟨r, hr, hlen⟩ := ih i1 h1 (acc ++ [⟨wrap64 (-(j : Int)), wrap64 ((j : Int) + 3)⟩]) (j + 1) (by omega) (by rw [List.length_append]; simp only [List.length_cons, List.length_nil]; omega) c1
      refine ⟨r, Ev.step (fun k => by simp only [spec_l1DrawList.l0]; rfl) ?_, by rw [List.length_append] at hlen; simp only [List.length_cons, List.length_nil] at hlen; omega⟩
      simp only [e1, Option.bind_some]
      rw [w64 (x := 64 + y) (by omega) (by omega), w64 (x := (j : Int) + 1) (by omega) (by omega)]
      simp only [cj, if_true, show acc.length < 8796093022208 by omega]
      exact hr
    · refine ⟨acc, Ev.step (fun k => by simp only [spec_l1DrawList.l0]; rfl) ?_, Nat.le_add_right _ _⟩
      · simp only [e1, Option.bind_some]
        rw [w64 (x := 64 + y) (by omega) (by omega)]
        simp only [cj, if_false]
        exact Ev.now _
theorem l1DrawList_ev (l : List Int) (hl : l.length ≤ 1048576) : ∃ r, Ev (fun k => spec_l1DrawList.f k l) r ∧ r.length ≤ 2000000 := by
  unfold spec_l1DrawList.f
  obtain ⟨h, hn⟩ := l1New_ev l hl
  obtain ⟨o, i1, h1, e1, c1⟩ := l1Once_ok h 20 (by omega) (cu0 hl)
  by_cases co : o = true
  · obtain ⟨r, hr, hlen⟩ := l1DrawList_l0 (b := l) 65 i1 h1 [] 0 (by omega) (by simp only [List.length_nil]; omega) c1
    refine ⟨r, Ev.bind hn ?_, by simp only [List.length_nil] at hlen; omega⟩
    simp only [e1, Option.bind_some, co, if_true]
    exact hr
  · obtain ⟨x, ex, hx, hx2, hx0⟩ := l1Size_ok l hl 20
    obtain ⟨m, i2, h2, e2, hlen, _⟩ := l1DrawIvals_ev h1 x (by omega) (by omega) c1
    refine ⟨m, Ev.bind hn ?_, by omega⟩
    simp only [e1, Option.bind_some, co, if_false, ex]
    refine Ev.bind e2 ?_
    exact Ev.now _

theorem mFold_in (l : List IV) : ∀ lo hi, (mFold lo hi l).2.2 = true → (∀ x ∈ l, ivOk x = true ∧ x.f0 ≤ (mFold lo hi l).1 ∧ (mFold lo hi l).2.1 ≤ x.f1) ∧ ok2 (mFold lo hi l).1 (mFold lo hi l).2.1 = true ∧ lo ≤ (mFold lo hi l).1 ∧ (mFold lo hi l).2.1 ≤ hi := by
  induction l with
  | nil =>
    intro lo hi h
    rw [mFold] at h ⊢
    unfold told2 at h ⊢
    by_cases c : ok2 lo hi = true
    · rw [if_pos c]
      exact ⟨fun x hx => (by cases hx), c, Int.le_refl _, Int.le_refl _⟩
    · rw [if_neg c] at h
      cases h
  | cons y l ih =>
    intro lo hi h
    rw [mFold] at h ⊢
    by_cases c : ivOk y = true
    · rw [if_pos c] at h ⊢
      obtain ⟨h1, h2, h3, h4⟩ := ih _ _ h
      have e : y.f0 ≤ mx lo y.f0 ∧ lo ≤ mx lo y.f0 ∧ mn hi y.f1 ≤ y.f1 ∧ mn hi y.f1 ≤ hi := by unfold mx mn; omega
      refine ⟨fun x hx => ?_, h2, by omega, by omega⟩
      rcases List.mem_cons.1 hx with rfl | hx
      · exact ⟨c, by omega, by omega⟩
      · exact h1 x hx
    · rw [if_neg c] at h
      cases h
theorem jFold_in (l : List IV) : ∀ lo hi, (jFold lo hi l).2.2 = true → (∀ x ∈ l, ivOk x = true ∧ (jFold lo hi l).1 ≤ x.f0 ∧ x.f1 ≤ (jFold lo hi l).2.1) ∧ ok2 (jFold lo hi l).1 (jFold lo hi l).2.1 = true ∧ (jFold lo hi l).1 ≤ lo ∧ hi ≤ (jFold lo hi l).2.1 := by
  induction l with
  | nil =>
    intro lo hi h
    rw [jFold] at h ⊢
    unfold told2 at h ⊢
    by_cases c : ok2 lo hi = true
    · rw [if_pos c]
      exact ⟨fun x hx => (by cases hx), c, Int.le_refl _, Int.le_refl _⟩
    · rw [if_neg c] at h
      cases h
  | cons y l ih =>
    intro lo hi h
    rw [jFold] at h ⊢
    by_cases c : ivOk y = true
    · rw [if_pos c] at h ⊢
      obtain ⟨h1, h2, h3, h4⟩ := ih _ _ h
      have e : mn lo y.f0 ≤ y.f0 ∧ mn lo y.f0 ≤ lo ∧ y.f1 ≤ mx hi y.f1 ∧ hi ≤ mx hi y.f1 := by unfold mx mn; omega
      refine ⟨fun x hx => ?_, h2, by omega, by omega⟩
      rcases List.mem_cons.1 hx with rfl | hx
      · exact ⟨c, by omega, by omega⟩
      · exact h1 x hx
    · rw [if_neg c] at h
      cases h
theorem meetAll_in (l : List IV) (h : (meetAll l).2.2 = true) (x : IV) (hx : x ∈ l) : (ok2 (meetAll l).1 (meetAll l).2.1 && (ok2 x.f0 x.f1 && decide (x.f0 ≤ (meetAll l).1 ∧ (meetAll l).2.1 ≤ x.f1))) = true := by
  unfold meetAll at h ⊢
  by_cases c : 1 ≤ l.length ∧ l.length ≤ 64
  · rw [if_pos c] at h ⊢
    obtain ⟨h1, h2, _, _⟩ := mFold_in l _ _ h
    obtain ⟨g1, g2, g3⟩ := h1 x hx
    unfold ivOk at g1
    rw [h2, g1, Bool.true_and, Bool.true_and, decide_eq_true_iff]
    exact ⟨g2, g3⟩
  · rw [if_neg c] at h
    cases h
theorem joinAll_in (l : List IV) (h : (joinAll l).2.2 = true) (x : IV) (hx : x ∈ l) : (ok2 x.f0 x.f1 && (ok2 (joinAll l).1 (joinAll l).2.1 && decide ((joinAll l).1 ≤ x.f0 ∧ x.f1 ≤ (joinAll l).2.1))) = true := by
  unfold joinAll at h ⊢
  by_cases c : 1 ≤ l.length ∧ l.length ≤ 64
  · rw [if_pos c] at h ⊢
    obtain ⟨h1, h2, _, _⟩ := jFold_in l _ _ h
    obtain ⟨g1, g2, g3⟩ := h1 x hx
    unfold ivOk at g1
    rw [h2, g1, Bool.true_and, Bool.true_and, decide_eq_true_iff]
    exact ⟨g2, g3⟩
  · rw [if_neg c] at h
    cases h
theorem all1_l0 (l : List IV) (hl : l.length ≤ 9223372036854775806) (m : Nat) : ∀ i : Nat, i + m = l.length → Ev (fun k => laws_FnAll1.l0 k l (meetAll l).2.2 (joinAll l).2.2 (i : Int) (meetAll l).1 (meetAll l).2.1 (joinAll l).1 (joinAll l).2.1) true := by
  induction m with
  | zero =>
    intro i hi
    refine Ev.step (fun k => by simp only [laws_FnAll1.l0]; rfl) ?_
    simp only [show ¬ ((i : Int) < (l.length : Int)) by omega, if_false]
    exact Ev.now true
  | succ m ih =>
    intro i hi
    refine Ev.step (fun k => by simp only [laws_FnAll1.l0]; rfl) ?_
    simp only [show (i : Int) < (l.length : Int) by omega, show (0 : Int) ≤ (i : Int) by omega, if_true, iWithin_eq, Option.bind_some]
    rw [rdI_nat l i (by omega), w64 (by omega) (by omega)]
    have hx : l[i]'(by omega) ∈ l := List.getElem_mem _
    generalize l[i]'(by omega) = x at hx
    have ih' := ih (i + 1) (by omega)
    have hm := fun h => meetAll_in l h x hx
    have hj := fun h => joinAll_in l h x hx
    generalize meetAll l = p at *
    generalize joinAll l = q at *
    by_cases c1 : p.2.2 = true
    · rw [c1] at ih'
      simp only [c1, if_true, hm c1]
      by_cases c2 : q.2.2 = true
      · rw [c2] at ih'
        simp only [c2, if_true, hj c2]
        exact ih'
      · rw [Bool.not_eq_true] at c2
        rw [c2] at ih'
        simp only [c2, Bool.false_eq_true, if_false]
        exact ih'
    · rw [Bool.not_eq_true] at c1
      rw [c1] at ih'
      simp only [c1, Bool.false_eq_true, if_false]
      by_cases c2 : q.2.2 = true
      · rw [c2] at ih'
        simp only [c2, if_true, hj c2]
        exact ih'
      · rw [Bool.not_eq_true] at c2
        rw [c2] at ih'
        simp only [c2, Bool.false_eq_true, if_false]
        exact ih'
theorem FnAll1 (l0 : List Int) (_h : ∀ x ∈ l0, (Lit.int .u8 x).wf = true) (_hm : l0.length ≤ 9223372036854775807) : ∃ k, laws_FnAll1.f k l0 = some true := by
  apply Ev.rounds
  unfold laws_FnAll1.f
  simp only [big_eq, Option.bind_some]
  by_cases c : (l0.length : Int) > 1048576
  · simp only [c, decide_true, if_true]
    exact Ev.now true
  · simp only [c, decide_false, Bool.false_eq_true, if_false]
    obtain ⟨l, hl, hlen⟩ := l1DrawList_ev l0 (by omega)
    have hr : Ev (fun k => spec_DrawMeetAll.f k l0) l := by
      unfold spec_DrawMeetAll.f
      refine Ev.bind hl ?_
      exact Ev.now _
    refine Ev.bind hr ?_
    refine Ev.bind (iMeetAll_ev l) ?_
    refine Ev.bind (iJoinAll_ev l) ?_
    refine Ev.bind (sMeetAll_ev l) ?_
    refine Ev.bind (sJoinAll_ev l) ?_
    simp only [bne_self_eq_false, Bool.false_eq_true, if_false]
    refine Ev.step (fun k => by simp only [laws_FnAll1.j0]; rfl) ?_
    simp only [Bool.false_eq_true, if_false]
    exact all1_l0 l (by omega) l.length 0 (by omega)

end Go.Proofs.Ytimikgeppdgpkaa.Pure
