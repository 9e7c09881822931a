/- The plain half of FnMeets: what the printed functions compute, over numbers and lists alone. No condition. -/
import Derived.Test.YtimikgeppdgpkaaXFnMeetsx
import Derived.OpenShut
namespace Go.Proofs.Ytimikgeppdgpkaa.Pure
open Go.RowKit Go.Proofs.Ytimikgeppdgpkaa.XFnMeets Go.Proofs.YtimikgeppdgpkaaW.PrintWords Go.Proofs.YtimikgeppdgpkaaW.PrintLast Go.Proofs.YtimikgeppdgpkaaW.PrintMore
set_option linter.unusedVariables false
set_option linter.unusedSimpArgs false
theorem wf64 {x : Int} (h : (Lit.int .i64 x).wf = true) : -9223372036854775808 ≤ x ∧ x ≤ 9223372036854775807 := by
  simp [Lit.wf, IntKind.min, IntKind.max, IntKind.signed, IntKind.bits] at h
  omega
theorem w64 {x : Int} (h1 : -9223372036854775808 ≤ x) (h2 : x ≤ 9223372036854775807) : wrap64 x = x := by
  unfold wrap64
  omega
theorem in_eq (a b c : Int) : impl_in.f a b c = some (decide (b ≤ a ∧ a ≤ c)) := by
  unfold impl_in.f
  by_cases h : b ≤ a <;> simp [h]
theorem l1In_eq (a b c : Int) : spec_l1In.f a b c = some (decide (b ≤ a ∧ a ≤ c)) := by
  unfold spec_l1In.f
  by_cases h : b ≤ a <;> simp [h]
theorem iIvalOk_eq (a b : Int) : impl_IvalOk.f a b = some (decide (-1000000000000 ≤ a ∧ a ≤ b ∧ b ≤ 1000000000000)) := by
  unfold impl_IvalOk.f
  by_cases h : -1000000000000 ≤ a <;> by_cases h2 : a ≤ b <;> simp [h, h2]
theorem sIvalOk_eq (a b : Int) : spec_IvalOk.f a b = some (decide (-1000000000000 ≤ a ∧ a ≤ b ∧ b ≤ 1000000000000)) := by
  unfold spec_IvalOk.f
  simp only [l1In_eq, Option.bind_some, decide_eq_true_eq]
  by_cases h : a ≤ b
  · rw [if_pos h]
    by_cases h2 : -1000000000000 ≤ a ∧ a ≤ 1000000000000
    · rw [if_pos h2]
      simp only [Option.some.injEq, decide_eq_decide]
      omega
    · rw [if_neg h2]
      simp only [Option.some.injEq]
      exact (decide_eq_false (by omega)).symm
  · rw [if_neg h]
    simp only [Option.some.injEq]
    exact (decide_eq_false (by omega)).symm
theorem ival_eq (a b : Int) : impl_ival.f a b = some (if -1000000000000 ≤ a ∧ a ≤ b ∧ b ≤ 1000000000000 then (a, b, true) else (0, 0, false)) := by
  unfold impl_ival.f
  simp only [iIvalOk_eq, Option.bind_some, decide_eq_true_eq]
  split <;> rfl
theorem l1Max_eq (a b : Int) : spec_l1Max.f a b = some (mx a b) := by
  unfold spec_l1Max.f mx
  by_cases h : a > b
  · rw [if_pos h, if_neg (by omega)]
  · rw [if_neg h]
    by_cases h2 : a < b
    · rw [if_pos h2]
    · rw [if_neg h2]
      have : a = b := by omega
      rw [this]
theorem l1Min_eq (a b : Int) : spec_l1Min.f a b = some (mn a b) := by
  unfold spec_l1Min.f mn
  by_cases h : a < b
  · rw [if_pos h, if_neg (by omega)]
  · rw [if_neg h]
    by_cases h2 : b < a
    · rw [if_pos h2]
    · rw [if_neg h2]
      have : a = b := by omega
      rw [this]
/-- All of a list are bytes. -/
def U8s (l : List Int) : Prop := ∀ x ∈ l, (Lit.int .u8 x).wf = true
theorem u8s_rd {l : List Int} (h : U8s l) (i : Int) : 0 ≤ rd l i ∧ rd l i ≤ 255 := by
  unfold rd
  rw [List.getD_eq_getElem?_getD]
  rcases Nat.lt_or_ge i.toNat l.length with hi | hi
  · rw [List.getElem?_eq_getElem hi]
    exact Go.bounds_u8 (h _ (List.getElem_mem hi))
  · rw [List.getElem?_eq_none hi]
    decide
theorem rd_nat (l : List Int) (i : Nat) (hi : i < l.length) : rd l (i : Int) = l[i] := by
  unfold rd
  rw [List.getD_eq_getElem?_getD]
  simp [List.getElem?_eq_getElem hi]
/-- A cursor's place. -/
def Cu (b : List Int) (i : Int) : Prop := 0 ≤ i ∧ i ≤ b.length ∧ b.length ≤ 1048576
theorem and255_in (y : Int) : 0 ≤ Go.bits .and .i64 y 255 ∧ Go.bits .and .i64 y 255 ≤ 255 := by
  have e : Go.bits .and .i64 y 255 = IntKind.i64.wrap ((BitVec.ofInt 64 y &&& BitVec.ofInt 64 255).toNat : Int) := rfl
  have h1 : (BitVec.ofInt 64 y &&& BitVec.ofInt 64 255).toNat ≤ 255 := by
    rw [BitVec.toNat_and]
    exact Nat.le_trans Nat.and_le_right (by decide)
  have h2 : IntKind.i64.wrap ((BitVec.ofInt 64 y &&& BitVec.ofInt 64 255).toNat : Int) = ((BitVec.ofInt 64 y &&& BitVec.ofInt 64 255).toNat : Int) := by
    rw [IntKind.wrap_i64]
    omega
  rw [e, h2]
  omega
theorem l1Byte_ok {b : List Int} {i : Int} (h : Int) (hc : Cu b i) : ∃ x i' h', spec_l1Byte.f b i h = some (x, i', h') ∧ (0 ≤ x ∧ x ≤ 255) ∧ Cu b i' := by
  obtain ⟨h0, h1, h2⟩ := hc
  unfold spec_l1Byte.f
  by_cases c : i < (b.length : Int)
  · rw [if_pos c, if_pos h0]
    exact ⟨_, _, _, rfl, and255_in _, by rw [w64 (by omega) (by omega)]; exact ⟨by omega, by omega, h2⟩⟩
  · rw [if_neg c]
    exact ⟨_, _, _, rfl, and255_in _, h0, h1, h2⟩
theorem l1Below_ok {b : List Int} {i : Int} (h n : Int) (hn : n ≤ 9223372036854775807) (hc : Cu b i) : ∃ x i' h', spec_l1Below.f b i h n = some (x, i', h') ∧ 0 ≤ x ∧ (0 < n → x < n) ∧ (n ≤ 0 → x = 0) ∧ x ≤ 4294967295 ∧ Cu b i' := by
  unfold spec_l1Below.f
  by_cases c : n ≤ 0
  · rw [if_pos c]
    exact ⟨_, _, _, rfl, by omega, by omega, fun _ => rfl, by omega, hc⟩
  · rw [if_neg c]
    by_cases c2 : n ≤ 256
    · rw [if_pos c2]
      obtain ⟨x, i', h', e, hx, hc'⟩ := l1Byte_ok h hc
      rw [e]
      simp only [Option.bind_some, if_neg (show ¬ (n = 0) by omega)]
      rw [Int.tmod_eq_emod_of_nonneg hx.1]
      have h1 := Int.emod_nonneg x (show n ≠ 0 by omega)
      have h2 := Int.emod_lt_of_pos x (show 0 < n by omega)
      exact ⟨_, _, _, rfl, h1, fun _ => h2, by omega, by omega, hc'⟩
    · rw [if_neg c2]
      obtain ⟨x, i1, h1, e1, hx, hc1⟩ := l1Byte_ok h hc
      obtain ⟨y, i2, h2, e2, hy, hc2⟩ := l1Byte_ok h1 hc1
      obtain ⟨z, i3, h3, e3, hz, hc3⟩ := l1Byte_ok h2 hc2
      obtain ⟨w, i4, h4, e4, hw, hc4⟩ := l1Byte_ok h3 hc3
      rw [e1]
      simp only [Option.bind_some]
      rw [e2]
      simp only [Option.bind_some]
      rw [e3]
      simp only [Option.bind_some]
      rw [e4]
      simp only [Option.bind_some, if_neg (show ¬ (n = 0) by omega)]
      have ew : wrap64 (wrap64 (wrap64 (wrap64 (x * 16777216) + wrap64 (y * 65536)) + wrap64 (z * 256)) + w) = x * 16777216 + y * 65536 + z * 256 + w := by
        rw [w64 (x := x * 16777216) (by omega) (by omega), w64 (x := y * 65536) (by omega) (by omega), w64 (x := z * 256) (by omega) (by omega), w64 (x := x * 16777216 + y * 65536) (by omega) (by omega), w64 (x := x * 16777216 + y * 65536 + z * 256) (by omega) (by omega), w64 (by omega) (by omega)]
      rw [ew, Int.tmod_eq_emod_of_nonneg (by omega)]
      have g1 := Int.emod_nonneg (x * 16777216 + y * 65536 + z * 256 + w) (show n ≠ 0 by omega)
      have g2 := Int.emod_lt_of_pos (x * 16777216 + y * 65536 + z * 256 + w) (show 0 < n by omega)
      have g3 : (x * 16777216 + y * 65536 + z * 256 + w) % n ≤ x * 16777216 + y * 65536 + z * 256 + w := by
        have q1 := Int.emod_add_mul_ediv (x * 16777216 + y * 65536 + z * 256 + w) n
        have q2 : 0 ≤ n * ((x * 16777216 + y * 65536 + z * 256 + w) / n) := Int.mul_nonneg (by omega) (Int.ediv_nonneg (by omega) (by omega))
        omega
      exact ⟨_, _, _, rfl, g1, fun _ => g2, by omega, by omega, hc4⟩
theorem l1New_l0 (b : List Int) (hl : b.length ≤ 1048576) (d : Nat) : ∀ (i : Nat) (x : Int), i + d = b.length → ∃ h, Ev (fun k => spec_l1New.l0 k b x (i : Int)) (b, 0, h) := by
  induction d with
  | zero =>
    intro i x hi
    refine ⟨x, Ev.step (fun k => by simp only [spec_l1New.l0]; rfl) ?_⟩
    simp only [show ¬ ((i : Int) < (b.length : Int)) by omega, if_false]
    exact Ev.now _
  | succ d ih =>
    intro i x hi
    by_cases c : (i : Int) < 4000
    · obtain ⟨h, hh⟩ := ih (i + 1) (Go.bits .and .i64 (wrap64 ((wrap64 ((wrap64 (x * 131)) + (wrap64 (rd b (i : Int))))) + 7)) 1073741823) (by omega)
      refine ⟨h, Ev.step (fun k => by simp only [spec_l1New.l0]; rfl) ?_⟩
      simp only [show (i : Int) < (b.length : Int) by omega, c, show (0 : Int) ≤ (i : Int) by omega, if_true]
      rw [w64 (x := (i : Int) + 1) (by omega) (by omega)]
      exact hh
    · refine ⟨x, Ev.step (fun k => by simp only [spec_l1New.l0]; rfl) ?_⟩
      simp only [show (i : Int) < (b.length : Int) by omega, c, if_true, if_false]
      exact Ev.now _
theorem l1New_ev (b : List Int) (hl : b.length ≤ 1048576) : ∃ h, Ev (fun k => spec_l1New.f k b) (b, 0, h) := by
  unfold spec_l1New.f
  exact l1New_l0 b hl b.length 0 _ (by omega)
theorem cu0 {b : List Int} (hl : b.length ≤ 1048576) : Cu b 0 := ⟨by omega, by omega, hl⟩
theorem l1PickInt_ok {b : List Int} {i : Int} (h : Int) (l : List Int) (hl0 : 0 < l.length) (hl1 : l.length ≤ 256) (hc : Cu b i) : ∃ x i' h', spec_l1PickInt.f b i h l = some (x, i', h') ∧ x ∈ l ∧ Cu b i' := by
  unfold spec_l1PickInt.f
  obtain ⟨x, i', h', e, hx0, hx1, _, _, hc'⟩ := l1Below_ok h (l.length : Int) (by omega) hc
  rw [e]
  have := hx1 (by omega)
  simp only [Option.bind_some, if_pos hx0, if_pos this]
  refine ⟨_, _, _, rfl, ?_, hc'⟩
  unfold rd
  rw [List.getD_eq_getElem?_getD, List.getElem?_eq_getElem (by omega)]
  exact List.getElem_mem _
theorem l1DrawTime_ok {b : List Int} {i : Int} (h : Int) (hc : Cu b i) : ∃ x i' h', spec_l1DrawTime.f b i h = some (x, i', h') ∧ (-1000000000000 ≤ x ∧ x ≤ 1000000000000) ∧ Cu b i' := by
  unfold spec_l1DrawTime.f
  obtain ⟨x, i', h', e, hx0, hx1, _, _, hc'⟩ := l1Below_ok h 12 (by omega) hc
  rw [e]
  simp only [Option.bind_some]
  by_cases c0 : x = 0
  · rw [if_pos c0]
    obtain ⟨y, i2, h2, e2, hy, hc2⟩ := l1PickInt_ok h' [(-1000000000000), 1000000000000, 999999999999, (-999999999999), 0] (by simp) (by simp) hc'
    rw [e2]
    refine ⟨_, _, _, rfl, ?_, hc2⟩
    simp at hy
    omega
  · rw [if_neg c0]
    by_cases c1 : x = 1
    · rw [if_pos c1]
      obtain ⟨y, i2, h2, e2, hy0, hy1, _, _, hc2⟩ := l1Below_ok h' 1000000000 (by omega) hc'
      rw [e2]
      simp only [Option.bind_some]
      obtain ⟨z, i3, h3, e3, hz, hc3⟩ := l1PickInt_ok h2 [1, (-1), 900] (by simp) (by simp) hc2
      rw [e3]
      refine ⟨_, _, _, rfl, ?_, hc3⟩
      have := hy1 (by omega)
      simp at hz
      rcases hz with rfl | rfl | rfl <;> (rw [w64 (by omega) (by omega)]; omega)
    · rw [if_neg c1]
      obtain ⟨y, i2, h2, e2, hy0, hy1, _, _, hc2⟩ := l1Below_ok h' 120 (by omega) hc'
      rw [e2]
      have := hy1 (by omega)
      refine ⟨_, _, _, rfl, ?_, hc2⟩
      rw [w64 (by omega) (by omega)]
      omega

abbrev IV := S30
theorem rdI_nat (l : List IV) (i : Nat) (hi : i < l.length) : rd_T30 l (i : Int) = l[i] := by
  unfold rd_T30
  rw [List.getD_eq_getElem?_getD]
  simp [List.getElem?_eq_getElem hi]
def ok2 (a b : Int) : Bool := decide (-1000000000000 ≤ a ∧ a ≤ b ∧ b ≤ 1000000000000)
theorem ok2_iff {a b : Int} : ok2 a b = true ↔ -1000000000000 ≤ a ∧ a ≤ b ∧ b ≤ 1000000000000 := by unfold ok2; exact decide_eq_true_iff
def ivOk (x : IV) : Bool := ok2 x.f0 x.f1
def told2 (a b : Int) : Int × Int × Bool := if ok2 a b = true then (a, b, true) else (0, 0, false)
def mFold (lo hi : Int) : List IV → Int × Int × Bool
  | [] => told2 lo hi
  | x :: l => if ivOk x = true then mFold (mx lo x.f0) (mn hi x.f1) l else (0, 0, false)
def jFold (lo hi : Int) : List IV → Int × Int × Bool
  | [] => told2 lo hi
  | x :: l => if ivOk x = true then jFold (mn lo x.f0) (mx hi x.f1) l else (0, 0, false)
/-- What MeetAll and JoinAll tell. -/
def meetAll (l : List IV) : Int × Int × Bool := if 1 ≤ l.length ∧ l.length ≤ 64 then mFold (rd_T30 l 0).f0 (rd_T30 l 0).f1 l else (0, 0, false)
def joinAll (l : List IV) : Int × Int × Bool := if 1 ≤ l.length ∧ l.length ≤ 64 then jFold (rd_T30 l 0).f0 (rd_T30 l 0).f1 l else (0, 0, false)
theorem mFold_bad (l : List IV) : ∀ lo hi, (∃ x ∈ l, ivOk x = false) → mFold lo hi l = (0, 0, false) := by
  induction l with
  | nil => intro lo hi h; obtain ⟨x, hx, _⟩ := h; simp at hx
  | cons y l ih =>
    intro lo hi h
    rw [mFold]
    by_cases c : ivOk y = true
    · rw [if_pos c]
      obtain ⟨x, hx, hb⟩ := h
      rcases List.mem_cons.1 hx with rfl | hx
      · rw [c] at hb
        cases hb
      · exact ih _ _ ⟨x, hx, hb⟩
    · rw [if_neg c]
theorem jFold_bad (l : List IV) : ∀ lo hi, (∃ x ∈ l, ivOk x = false) → jFold lo hi l = (0, 0, false) := by
  induction l with
  | nil => intro lo hi h; obtain ⟨x, hx, _⟩ := h; simp at hx
  | cons y l ih =>
    intro lo hi h
    rw [jFold]
    by_cases c : ivOk y = true
    · rw [if_pos c]
      obtain ⟨x, hx, hb⟩ := h
      rcases List.mem_cons.1 hx with rfl | hx
      · rw [c] at hb
        cases hb
      · exact ih _ _ ⟨x, hx, hb⟩
    · rw [if_neg c]
theorem mFold_empty (l : List IV) : ∀ lo hi, hi < lo → mFold lo hi l = (0, 0, false) := by
  induction l with
  | nil =>
    intro lo hi h
    rw [mFold, told2, if_neg]
    rw [ok2_iff]
    omega
  | cons y l ih =>
    intro lo hi h
    rw [mFold]
    split
    · exact ih _ _ (by unfold mx mn; omega)
    · rfl
theorem iMeet_l0 (l : List IV) (hl : l.length ≤ 64) (d : Nat) : ∀ (i : Nat) (lo hi : Int), i + d = l.length → Ev (fun k => impl_folded_102.l0 k l (l.length : Int) (i : Int) lo hi) (mFold lo hi (l.drop i)) := by
  induction d with
  | zero =>
    intro i lo hi h
    refine Ev.step (fun k => by simp only [impl_folded_102.l0]; rfl) ?_
    simp only [show ¬ ((i : Int) < (l.length : Int)) by omega, if_false, ival_eq, Option.bind_some]
    rw [List.drop_eq_nil_of_le (by omega), mFold]
    have e : told2 lo hi = if -1000000000000 ≤ lo ∧ lo ≤ hi ∧ hi ≤ 1000000000000 then (lo, hi, true) else (0, 0, false) := by
      unfold told2
      simp only [ok2_iff]
    rw [e]
    exact Ev.now _
  | succ d ih =>
    intro i lo hi h
    refine Ev.step (fun k => by simp only [impl_folded_102.l0]; rfl) ?_
    simp only [show (i : Int) < (l.length : Int) by omega, show (0 : Int) ≤ (i : Int) by omega, if_true, iIvalOk_eq, Option.bind_some]
    rw [rdI_nat l i (by omega), List.drop_eq_getElem_cons (show i < l.length by omega), mFold, w64 (by omega) (by omega)]
    change Ev (fun k => if ivOk (l[i]'(by omega)) = true then _ else _) _
    by_cases c : ivOk (l[i]'(by omega)) = true
    · simp only [c, if_true, impl_MeetAll_1.f, Option.bind_some]
      exact ih (i + 1) _ _ (by omega)
    · simp only [c, if_false]
      exact Ev.now _
theorem iMeetAll_ev (l : List IV) : Ev (fun k => impl_MeetAll.f k l) (meetAll l) := by
  unfold impl_MeetAll.f impl_folded_102.f meetAll
  simp only [in_eq, Option.bind_some, decide_eq_true_eq]
  by_cases c : 1 ≤ l.length ∧ l.length ≤ 64
  · rw [if_pos c]
    simp only [show (1 : Int) ≤ (l.length : Int) ∧ (l.length : Int) ≤ 64 by omega, show (0 : Int) < (l.length : Int) by omega, and_self, if_true]
    refine Ev.bind (a := mFold (rd_T30 l 0).f0 (rd_T30 l 0).f1 l) ?_ (Ev.now _)
    have := iMeet_l0 l c.2 l.length 0 (rd_T30 l 0).f0 (rd_T30 l 0).f1 (by omega)
    simpa using this
  · rw [if_neg c]
    simp only [show ¬ ((1 : Int) ≤ (l.length : Int) ∧ (l.length : Int) ≤ 64) by omega, if_false, Option.bind_some]
    exact Ev.now _
theorem iJoin_l0 (l : List IV) (hl : l.length ≤ 64) (d : Nat) : ∀ (i : Nat) (lo hi : Int), i + d = l.length → Ev (fun k => impl_folded_101.l0 k l (l.length : Int) (i : Int) lo hi) (jFold lo hi (l.drop i)) := by
  induction d with
  | zero =>
    intro i lo hi h
    refine Ev.step (fun k => by simp only [impl_folded_101.l0]; rfl) ?_
    simp only [show ¬ ((i : Int) < (l.length : Int)) by omega, if_false, ival_eq, Option.bind_some]
    rw [List.drop_eq_nil_of_le (by omega), jFold]
    have e : told2 lo hi = if -1000000000000 ≤ lo ∧ lo ≤ hi ∧ hi ≤ 1000000000000 then (lo, hi, true) else (0, 0, false) := by
      unfold told2
      simp only [ok2_iff]
    rw [e]
    exact Ev.now _
  | succ d ih =>
    intro i lo hi h
    refine Ev.step (fun k => by simp only [impl_folded_101.l0]; rfl) ?_
    simp only [show (i : Int) < (l.length : Int) by omega, show (0 : Int) ≤ (i : Int) by omega, if_true, iIvalOk_eq, Option.bind_some]
    rw [rdI_nat l i (by omega), List.drop_eq_getElem_cons (show i < l.length by omega), jFold, w64 (by omega) (by omega)]
    change Ev (fun k => if ivOk (l[i]'(by omega)) = true then _ else _) _
    by_cases c : ivOk (l[i]'(by omega)) = true
    · simp only [c, if_true, impl_JoinAll_1.f, Option.bind_some]
      exact ih (i + 1) _ _ (by omega)
    · simp only [c, if_false]
      exact Ev.now _
theorem iJoinAll_ev (l : List IV) : Ev (fun k => impl_JoinAll.f k l) (joinAll l) := by
  unfold impl_JoinAll.f impl_folded_101.f joinAll
  simp only [in_eq, Option.bind_some, decide_eq_true_eq]
  by_cases c : 1 ≤ l.length ∧ l.length ≤ 64
  · rw [if_pos c]
    simp only [show (1 : Int) ≤ (l.length : Int) ∧ (l.length : Int) ≤ 64 by omega, show (0 : Int) < (l.length : Int) by omega, and_self, if_true]
    refine Ev.bind (a := jFold (rd_T30 l 0).f0 (rd_T30 l 0).f1 l) ?_ (Ev.now _)
    have := iJoin_l0 l c.2 l.length 0 (rd_T30 l 0).f0 (rd_T30 l 0).f1 (by omega)
    simpa using this
  · rw [if_neg c]
    simp only [show ¬ ((1 : Int) ≤ (l.length : Int) ∧ (l.length : Int) ≤ 64) by omega, if_false, Option.bind_some]
    exact Ev.now _
def meet2 (a b c d : Int) : Int × Int × Bool := if ok2 a b = true ∧ ok2 c d = true then told2 (mx a c) (mn b d) else (0, 0, false)
def join2 (a b c d : Int) : Int × Int × Bool := if ok2 a b = true ∧ ok2 c d = true then told2 (mn a c) (mx b d) else (0, 0, false)
theorem meetAll_two (a b c d : Int) : meetAll [⟨a, b⟩, ⟨c, d⟩] = meet2 a b c d := by
  have e0 : rd_T30 [(⟨a, b⟩ : IV), ⟨c, d⟩] 0 = ⟨a, b⟩ := rfl
  unfold meetAll meet2
  rw [if_pos ⟨by simp, by simp⟩, e0]
  simp only [mFold, ivOk]
  have ea : mx a a = a := by unfold mx; split <;> rfl
  have eb : mn b b = b := by unfold mn; split <;> rfl
  rw [ea, eb]
  by_cases c1 : ok2 a b = true <;> by_cases c2 : ok2 c d = true <;> simp [c1, c2]
theorem iMeet_ev (a b c d : Int) : Ev (fun k => impl_Meet.f k a b c d) (meet2 a b c d) := by
  unfold impl_Meet.f
  refine Ev.bind (iMeetAll_ev _) ?_
  rw [meetAll_two]
  exact Ev.now _
theorem joinAll_two (a b c d : Int) : joinAll [⟨a, b⟩, ⟨c, d⟩] = join2 a b c d := by
  have e0 : rd_T30 [(⟨a, b⟩ : IV), ⟨c, d⟩] 0 = ⟨a, b⟩ := rfl
  unfold joinAll join2
  rw [if_pos ⟨by simp, by simp⟩, e0]
  simp only [jFold, ivOk]
  have ea : mn a a = a := by unfold mn; split <;> rfl
  have eb : mx b b = b := by unfold mx; split <;> rfl
  rw [ea, eb]
  by_cases c1 : ok2 a b = true <;> by_cases c2 : ok2 c d = true <;> simp [c1, c2]
theorem iJoin_ev (a b c d : Int) : Ev (fun k => impl_Join.f k a b c d) (join2 a b c d) := by
  unfold impl_Join.f
  refine Ev.bind (iJoinAll_ev _) ?_
  rw [joinAll_two]
  exact Ev.now _
theorem l1Once_ok {b : List Int} {i : Int} (h n : Int) (hn : n ≤ 9223372036854775807) (hc : Cu b i) : ∃ x i' h', spec_l1Once.f b i h n = some (x, i', h') ∧ Cu b i' := by
  unfold spec_l1Once.f
  obtain ⟨x, i', h', e, _, _, _, _, hc'⟩ := l1Below_ok h n hn hc
  rw [e]
  exact ⟨_, _, _, rfl, hc'⟩
theorem big_eq (l : List Int) : laws_big.f l = some (decide ((l.length : Int) > 1048576)) := rfl
theorem wrap64_le (x : Int) : wrap64 x ≤ 9223372036854775807 := by unfold wrap64; omega
theorem iHolds_eq (a b x : Int) : impl_Holds.f a b x = some (ok2 a b && decide (a ≤ x ∧ x ≤ b)) := by
  unfold impl_Holds.f
  simp only [iIvalOk_eq, in_eq, Option.bind_some]
  change (if ok2 a b = true then _ else _) = _
  by_cases c : ok2 a b = true
  · rw [if_pos c, c, Bool.true_and]
  · rw [if_neg c]
    rw [Bool.not_eq_true] at c
    rw [c, Bool.false_and]
theorem iWithin_eq (a b c d : Int) : impl_Within.f a b c d = some (ok2 a b && (ok2 c d && decide (c ≤ a ∧ b ≤ d))) := by
  unfold impl_Within.f
  simp only [iIvalOk_eq, Option.bind_some]
  change (if ok2 a b = true then (if ok2 c d = true then _ else _) else _) = _
  by_cases c1 : ok2 a b = true
  · rw [if_pos c1, c1, Bool.true_and]
    by_cases c2 : ok2 c d = true
    · rw [if_pos c2, c2, Bool.true_and]
      by_cases c3 : c ≤ a
      · rw [if_pos c3]
        simp [c3]
      · rw [if_neg c3]
        simp [c3]
    · rw [if_neg c2]
      rw [Bool.not_eq_true] at c2
      rw [c2, Bool.false_and]
  · rw [if_neg c1]
    rw [Bool.not_eq_true] at c1
    rw [c1, Bool.false_and]
theorem iApart_eq (a b c d : Int) : impl_Apart.f a b c d = some (if ok2 a b = true ∧ ok2 c d = true then mx (mx 0 (wrap64 (c - b))) (wrap64 (a - d)) else -1) := by
  unfold impl_Apart.f
  simp only [iIvalOk_eq, Option.bind_some]
  change (if ok2 a b = true then (if ok2 c d = true then _ else _) else _) = _
  by_cases c1 : ok2 a b = true
  · rw [if_pos c1]
    by_cases c2 : ok2 c d = true
    · rw [if_pos c2, if_pos ⟨c1, c2⟩]
    · rw [if_neg c2, if_neg (fun h => c2 h.2)]
  · rw [if_neg c1, if_neg (fun h => c1 h.1)]
theorem l1DrawIval_ok {b : List Int} {i : Int} (h : Int) (hc : Cu b i) : ∃ x y i' h', spec_l1DrawIval.f b i h = some (x, y, i', h') ∧ Cu b i' := by
  unfold spec_l1DrawIval.f
  obtain ⟨x, i1, h1, e1, hx, c1⟩ := l1DrawTime_ok h hc
  obtain ⟨y, i2, h2, e2, hy0, hy1, _, _, c2⟩ := l1Below_ok h1 60 (by omega) c1
  obtain ⟨z, i3, h3, e3, hz0, hz1, _, _, c3⟩ := l1Below_ok h2 30 (by omega) c2
  simp only [e1, e2, e3, l1Min_eq, Option.bind_some]
  by_cases d0 : z = 0
  · rw [if_pos d0]
    exact ⟨_, _, _, _, rfl, c3⟩
  · rw [if_neg d0]
    by_cases d1 : z = 1
    · rw [if_pos d1]
      obtain ⟨p, i4, h4, e4, hp, c4⟩ := l1PickInt_ok h3 [1000000000000, 1000000000001, 9223372036854775807] (by simp) (by simp) c3
      simp only [e4, Option.bind_some]
      exact ⟨_, _, _, _, rfl, c4⟩
    · rw [if_neg d1]
      by_cases d2 : z = 2
      · rw [if_pos d2]
        obtain ⟨p, i4, h4, e4, hp, c4⟩ := l1PickInt_ok h3 [(-1000000000000), (-1000000000001), (-9223372036854775807)] (by simp) (by simp) c3
        simp only [e4, Option.bind_some]
        exact ⟨_, _, _, _, rfl, c4⟩
      · rw [if_neg d2]
        exact ⟨_, _, _, _, rfl, c3⟩
theorem l1DrawTwo_ok {b : List Int} {i : Int} (h : Int) (hc : Cu b i) : ∃ x y z w i' h', spec_l1DrawTwo.f b i h = some (x, y, z, w, i', h') ∧ Cu b i' := by
  unfold spec_l1DrawTwo.f
  obtain ⟨x, y, i1, h1, e1, c1⟩ := l1DrawIval_ok h hc
  obtain ⟨z, w, i2, h2, e2, c2⟩ := l1DrawIval_ok h1 c1
  obtain ⟨o, i3, h3, e3, c3⟩ := l1Once_ok h2 3 (by omega) c2
  simp only [e1, e2, e3, Option.bind_some]
  by_cases co : o = true
  · rw [if_pos co]
    obtain ⟨p, i4, h4, e4, _, _, _, _, c4⟩ := l1Below_ok h3 80 (by omega) c3
    obtain ⟨q, i5, h5, e5, _, _, _, _, c5⟩ := l1Below_ok h4 60 (by omega) c4
    obtain ⟨u, i6, h6, e6, c6⟩ := l1Once_ok h5 2 (by omega) c5
    simp only [l1Max_eq, l1Min_eq, e4, e5, e6, Option.bind_some]
    by_cases cu : u = true
    · rw [if_pos cu]
      exact ⟨_, _, _, _, _, _, rfl, c6⟩
    · rw [if_neg cu]
      exact ⟨_, _, _, _, _, _, rfl, c6⟩
  · rw [if_neg co]
    obtain ⟨u, i6, h6, e6, c6⟩ := l1Once_ok h3 2 (by omega) c3
    simp only [e6, Option.bind_some]
    by_cases cu : u = true
    · rw [if_pos cu]
      exact ⟨_, _, _, _, _, _, rfl, c6⟩
    · rw [if_neg cu]
      exact ⟨_, _, _, _, _, _, rfl, c6⟩
theorem rd_any (l : List Int) (i : Int) : ∃ v, rd l i = v := ⟨_, rfl⟩
theorem meets_l0 (o : Bool) (L : List Int) (hL : L.length ≤ 1000) (a b c d p q : Int) (hh : ∀ x, (ok2 a b && decide (a ≤ x ∧ x ≤ b) && (ok2 c d && decide (c ≤ x ∧ x ≤ d))) = (o && (ok2 p q && decide (p ≤ x ∧ x ≤ q)))) (m : Nat) : ∀ i : Nat, i + m = L.length → Ev (fun k => laws_FnMeets.l0 k o L (i : Int) a b c d p q) true := by
  induction m with
  | zero =>
    intro i hi
    refine Ev.step (fun k => by simp only [laws_FnMeets.l0]; rfl) ?_
    simp only [show ¬ ((i : Int) < (L.length : Int)) by omega, if_false]
    exact Ev.now true
  | succ m ih =>
    intro i hi
    refine Ev.step (fun k => by simp only [laws_FnMeets.l0]; rfl) ?_
    obtain ⟨x, hx⟩ := rd_any L (i : Int)
    simp only [show (i : Int) < (L.length : Int) by omega, show (0 : Int) ≤ (i : Int) by omega, if_true, iHolds_eq, Option.bind_some, hx]
    rw [w64 (by omega) (by omega)]
    have h := hh x
    have ih' := ih (i + 1) (by omega)
    obtain rfl | rfl : o = true ∨ o = false := by cases o <;> simp
    · rw [Bool.true_and] at h
      by_cases c1 : (ok2 a b && decide (a ≤ x ∧ x ≤ b)) = true
      · rw [c1, Bool.true_and] at h
        simp only [c1, if_true, h, bne_self_eq_false, Bool.false_eq_true, if_false]
        exact ih'
      · rw [Bool.not_eq_true] at c1
        rw [c1, Bool.false_and] at h
        simp only [c1, if_true, ← h, bne_self_eq_false, Bool.false_eq_true, if_false]
        exact ih'
    · rw [Bool.false_and] at h
      by_cases c1 : (ok2 a b && decide (a ≤ x ∧ x ≤ b)) = true
      · rw [c1, Bool.true_and] at h
        simp only [c1, if_true, h, bne_self_eq_false, Bool.false_eq_true, if_false]
        exact ih'
      · rw [Bool.not_eq_true] at c1
        simp only [c1, bne_self_eq_false, Bool.false_eq_true, if_false]
        exact ih'
theorem meet_holds (a b c d x : Int) (h1 : ok2 a b = true) (h2 : ok2 c d = true) : (ok2 a b && decide (a ≤ x ∧ x ≤ b) && (ok2 c d && decide (c ≤ x ∧ x ≤ d))) = ((meet2 a b c d).2.2 && (ok2 (meet2 a b c d).1 (meet2 a b c d).2.1 && decide ((meet2 a b c d).1 ≤ x ∧ x ≤ (meet2 a b c d).2.1))) := by
  have g1 := ok2_iff.1 h1
  have g2 := ok2_iff.1 h2
  unfold meet2
  rw [if_pos ⟨h1, h2⟩]
  unfold told2
  rw [h1, h2, Bool.true_and, Bool.true_and]
  by_cases c3 : ok2 (mx a c) (mn b d) = true
  · rw [if_pos c3]
    simp only [c3, Bool.true_and]
    rw [Bool.eq_iff_iff, Bool.and_eq_true, decide_eq_true_iff, decide_eq_true_iff, decide_eq_true_iff]
    unfold mx mn
    omega
  · rw [if_neg c3]
    simp only [Bool.false_and]
    rw [Bool.eq_false_iff]
    intro hh
    rw [Bool.and_eq_true, decide_eq_true_iff, decide_eq_true_iff] at hh
    apply c3
    rw [ok2_iff]
    unfold mx mn
    omega
theorem meet_apart (a b c d : Int) (h1 : ok2 a b = true) (h2 : ok2 c d = true) : ((mx (mx 0 (wrap64 (c - b))) (wrap64 (a - d))) == 0) = (meet2 a b c d).2.2 := by
  have g1 := ok2_iff.1 h1
  have g2 := ok2_iff.1 h2
  unfold meet2
  rw [if_pos ⟨h1, h2⟩, w64 (by omega) (by omega), w64 (by omega) (by omega)]
  unfold told2
  by_cases c3 : ok2 (mx a c) (mn b d) = true
  · rw [if_pos c3]
    simp only
    rw [ok2_iff] at c3
    rw [beq_iff_eq]
    unfold mx mn at *
    omega
  · rw [if_neg c3]
    simp only
    rw [beq_eq_false_iff_ne]
    intro hh
    apply c3
    rw [ok2_iff]
    unfold mx mn at *
    omega
theorem join_in (a b c d : Int) (h1 : ok2 a b = true) (h2 : ok2 c d = true) : (join2 a b c d).2.2 = true ∧ ok2 (join2 a b c d).1 (join2 a b c d).2.1 = true ∧ (join2 a b c d).1 ≤ a ∧ (join2 a b c d).1 ≤ c ∧ b ≤ (join2 a b c d).2.1 ∧ d ≤ (join2 a b c d).2.1 := by
  have g1 := ok2_iff.1 h1
  have g2 := ok2_iff.1 h2
  have g3 : ok2 (mn a c) (mx b d) = true := by
    rw [ok2_iff]
    unfold mx mn
    omega
  unfold join2
  rw [if_pos ⟨h1, h2⟩]
  unfold told2
  rw [if_pos g3]
  refine ⟨rfl, g3, ?_, ?_, ?_, ?_⟩ <;> simp only [mx, mn] <;> omega
theorem meets_bad (a b c d : Int) (h : ¬ (ok2 a b = true ∧ ok2 c d = true)) : Ev (fun k => laws_FnMeets.j0 k true a b c d) true := by
  refine Ev.step (fun k => by simp only [laws_FnMeets.j0]; rfl) ?_
  simp only [if_true]
  refine Ev.bind (iMeet_ev a b c d) ?_
  unfold meet2
  simp only [h, if_false, Bool.false_eq_true, iApart_eq, Option.bind_some, if_true, iIvalOk_eq]
  exact Ev.now true
theorem meets_good (a b c d : Int) (h1 : ok2 a b = true) (h2 : ok2 c d = true) : Ev (fun k => laws_FnMeets.j0 k false a b c d) true := by
  refine Ev.step (fun k => by simp only [laws_FnMeets.j0]; rfl) ?_
  simp only [Bool.false_eq_true, if_false]
  refine Ev.bind (iMeet_ev a b c d) ?_
  refine Ev.bind (iJoin_ev a b c d) ?_
  obtain ⟨j1, j2, j3, j4, j5, j6⟩ := join_in a b c d h1 h2
  simp only [j1, if_true, iWithin_eq, iApart_eq, Option.bind_some, h1, h2, j2, j3, j4, j5, j6, and_self, decide_true, Bool.and_self, meet_apart a b c d h1 h2, bne_self_eq_false]
  refine Ev.step (fun k => by simp only [laws_FnMeets.j1]; rfl) ?_
  simp only [Bool.false_eq_true, if_false]
  exact meets_l0 _ _ (by simp) a b c d _ _ (fun x => meet_holds a b c d x h1 h2) 8 0 rfl
theorem FnMeets (l0 : List Int) (_h : ∀ x ∈ l0, (Lit.int .u8 x).wf = true) (_hm : l0.length ≤ 9223372036854775807) : ∃ k, laws_FnMeets.f k l0 = some true := by
  apply Ev.rounds
  unfold laws_FnMeets.f
  simp only [big_eq, Option.bind_some]
  by_cases c : (l0.length : Int) > 1048576
  · simp only [c, decide_true, if_true]
    exact Ev.now true
  · simp only [c, decide_false, Bool.false_eq_true, if_false]
    obtain ⟨h, hn⟩ := l1New_ev l0 (by omega)
    obtain ⟨x, y, z, w, i', h', e, _⟩ := l1DrawTwo_ok h (cu0 (show l0.length ≤ 1048576 by omega))
    have hr : Ev (fun k => spec_DrawMeet.f k l0) (x, y, z, w) := by
      unfold spec_DrawMeet.f
      refine Ev.bind hn ?_
      simp only [e, Option.bind_some]
      exact Ev.now _
    refine Ev.bind hr ?_
    simp only [sIvalOk_eq, Option.bind_some]
    change Ev (fun k => if ok2 x y = true then (fun k => laws_FnMeets.j0 k (!ok2 z w) x y z w) k else laws_FnMeets.j0 k true x y z w) _
    by_cases c1 : ok2 x y = true
    · simp only [c1, if_true]
      by_cases c2 : ok2 z w = true
      · simp only [c2, Bool.not_true]
        exact meets_good x y z w c1 c2
      · rw [Bool.not_eq_true] at c2
        simp only [c2, Bool.not_false]
        exact meets_bad x y z w (by simp [c2])
    · simp only [c1, if_false]
      exact meets_bad x y z w (fun hh => c1 hh.1)

end Go.Proofs.Ytimikgeppdgpkaa.Pure
