/- The plain half of FnExactJoin: what the printed functions compute, over numbers and lists alone. No condition. -/
import Derived.Test.YtimikgeppdgpkaaXFnExactJoinx
import Derived.OpenShut
namespace Go.Proofs.Ytimikgeppdgpkaa.Pure
open Go.RowKit Go.Proofs.Ytimikgeppdgpkaa.XFnExactJoin Go.Proofs.YtimikgeppdgpkaaW.PrintWords Go.Proofs.YtimikgeppdgpkaaW.PrintLast Go.Proofs.YtimikgeppdgpkaaW.PrintMore
set_option linter.unusedVariables false
set_option linter.unusedSimpArgs false
theorem wf64 {x : Int} (h : (Lit.int .i64 x).wf = true) : -9223372036854775808 ≤ x ∧ x ≤ 9223372036854775807 := by
  simp [Lit.wf, IntKind.min, IntKind.max, IntKind.signed, IntKind.bits] at h
  omega
theorem w64 {x : Int} (h1 : -9223372036854775808 ≤ x) (h2 : x ≤ 9223372036854775807) : wrap64 x = x := by
  unfold wrap64
  omega
theorem in_eq (a b c : Int) : impl_in.f a b c = some (decide (b ≤ a ∧ a ≤ c)) := by
  unfold impl_in.f
  by_cases h : b ≤ a <;> simp [h]
theorem l1In_eq (a b c : Int) : spec_l1In.f a b c = some (decide (b ≤ a ∧ a ≤ c)) := by
  unfold spec_l1In.f
  by_cases h : b ≤ a <;> simp [h]
theorem iIvalOk_eq (a b : Int) : impl_IvalOk.f a b = some (decide (-1000000000000 ≤ a ∧ a ≤ b ∧ b ≤ 1000000000000)) := by
  unfold impl_IvalOk.f
  by_cases h : -1000000000000 ≤ a <;> by_cases h2 : a ≤ b <;> simp [h, h2]
theorem sIvalOk_eq (a b : Int) : spec_IvalOk.f a b = some (decide (-1000000000000 ≤ a ∧ a ≤ b ∧ b ≤ 1000000000000)) := by
  unfold spec_IvalOk.f
  simp only [l1In_eq, Option.bind_some, decide_eq_true_eq]
  by_cases h : a ≤ b
  · rw [if_pos h]
    by_cases h2 : -1000000000000 ≤ a ∧ a ≤ 1000000000000
    · rw [if_pos h2]
      simp only [Option.some.injEq, decide_eq_decide]
      omega
    · rw [if_neg h2]
      simp only [Option.some.injEq]
      exact (decide_eq_false (by omega)).symm
  · rw [if_neg h]
    simp only [Option.some.injEq]
    exact (decide_eq_false (by omega)).symm
theorem toIval_eq (a b : Int) : laws_toIval.f a b = some (a, b) := rfl
theorem eqIval_self (a b : Int) : laws_eqIval.f a b a b = some true := by
  unfold laws_eqIval.f
  simp
theorem told_eq (a b : Int) : spec_l1Told.f a b = some (if -1000000000000 ≤ a ∧ a ≤ b ∧ b ≤ 1000000000000 then (a, b, true) else (0, 0, false)) := by
  unfold spec_l1Told.f
  simp only [sIvalOk_eq, Option.bind_some, decide_eq_true_eq]
  split <;> rfl
theorem ival_eq (a b : Int) : impl_ival.f a b = some (if -1000000000000 ≤ a ∧ a ≤ b ∧ b ≤ 1000000000000 then (a, b, true) else (0, 0, false)) := by
  unfold impl_ival.f
  simp only [iIvalOk_eq, Option.bind_some, decide_eq_true_eq]
  split <;> rfl
theorem l1Max_eq (a b : Int) : spec_l1Max.f a b = some (mx a b) := by
  unfold spec_l1Max.f mx
  by_cases h : a > b
  · rw [if_pos h, if_neg (by omega)]
  · rw [if_neg h]
    by_cases h2 : a < b
    · rw [if_pos h2]
    · rw [if_neg h2]
      have : a = b := by omega
      rw [this]
theorem l1Min_eq (a b : Int) : spec_l1Min.f a b = some (mn a b) := by
  unfold spec_l1Min.f mn
  by_cases h : a < b
  · rw [if_pos h, if_neg (by omega)]
  · rw [if_neg h]
    by_cases h2 : b < a
    · rw [if_pos h2]
    · rw [if_neg h2]
      have : a = b := by omega
      rw [this]
abbrev IV := S30
theorem rdI_nat (l : List IV) (i : Nat) (hi : i < l.length) : rd_T30 l (i : Int) = l[i] := by
  unfold rd_T30
  rw [List.getD_eq_getElem?_getD]
  simp [List.getElem?_eq_getElem hi]
def ok2 (a b : Int) : Bool := decide (-1000000000000 ≤ a ∧ a ≤ b ∧ b ≤ 1000000000000)
theorem ok2_iff {a b : Int} : ok2 a b = true ↔ -1000000000000 ≤ a ∧ a ≤ b ∧ b ≤ 1000000000000 := by unfold ok2; exact decide_eq_true_iff
def ivOk (x : IV) : Bool := ok2 x.f0 x.f1
def told2 (a b : Int) : Int × Int × Bool := if ok2 a b = true then (a, b, true) else (0, 0, false)
def mFold (lo hi : Int) : List IV → Int × Int × Bool
  | [] => told2 lo hi
  | x :: l => if ivOk x = true then mFold (mx lo x.f0) (mn hi x.f1) l else (0, 0, false)
def jFold (lo hi : Int) : List IV → Int × Int × Bool
  | [] => told2 lo hi
  | x :: l => if ivOk x = true then jFold (mn lo x.f0) (mx hi x.f1) l else (0, 0, false)
/-- What MeetAll and JoinAll tell. -/
def meetAll (l : List IV) : Int × Int × Bool := if 1 ≤ l.length ∧ l.length ≤ 64 then mFold (rd_T30 l 0).f0 (rd_T30 l 0).f1 l else (0, 0, false)
def joinAll (l : List IV) : Int × Int × Bool := if 1 ≤ l.length ∧ l.length ≤ 64 then jFold (rd_T30 l 0).f0 (rd_T30 l 0).f1 l else (0, 0, false)
theorem mFold_bad (l : List IV) : ∀ lo hi, (∃ x ∈ l, ivOk x = false) → mFold lo hi l = (0, 0, false) := by
  induction l with
  | nil => intro lo hi h; obtain ⟨x, hx, _⟩ := h; simp at hx
  | cons y l ih =>
    intro lo hi h
    rw [mFold]
    by_cases c : ivOk y = true
    · rw [if_pos c]
      obtain ⟨x, hx, hb⟩ := h
      rcases List.mem_cons.1 hx with rfl | hx
      · rw [c] at hb
        cases hb
      · exact ih _ _ ⟨x, hx, hb⟩
    · rw [if_neg c]
theorem jFold_bad (l : List IV) : ∀ lo hi, (∃ x ∈ l, ivOk x = false) → jFold lo hi l = (0, 0, false) := by
  induction l with
  | nil => intro lo hi h; obtain ⟨x, hx, _⟩ := h; simp at hx
  | cons y l ih =>
    intro lo hi h
    rw [jFold]
    by_cases c : ivOk y = true
    · rw [if_pos c]
      obtain ⟨x, hx, hb⟩ := h
      rcases List.mem_cons.1 hx with rfl | hx
      · rw [c] at hb
        cases hb
      · exact ih _ _ ⟨x, hx, hb⟩
    · rw [if_neg c]
theorem mFold_empty (l : List IV) : ∀ lo hi, hi < lo → mFold lo hi l = (0, 0, false) := by
  induction l with
  | nil =>
    intro lo hi h
    rw [mFold, told2, if_neg]
    rw [ok2_iff]
    omega
  | cons y l ih =>
    intro lo hi h
    rw [mFold]
    split
    · exact ih _ _ (by unfold mx mn; omega)
    · rfl
theorem iJoin_l0 (l : List IV) (hl : l.length ≤ 64) (d : Nat) : ∀ (i : Nat) (lo hi : Int), i + d = l.length → Ev (fun k => impl_folded_101.l0 k l (l.length : Int) (i : Int) lo hi) (jFold lo hi (l.drop i)) := by
  induction d with
  | zero =>
    intro i lo hi h
    refine Ev.step (fun k => by simp only [impl_folded_101.l0]; rfl) ?_
    simp only [show ¬ ((i : Int) < (l.length : Int)) by omega, if_false, ival_eq, Option.bind_some]
    rw [List.drop_eq_nil_of_le (by omega), jFold]
    have e : told2 lo hi = if -1000000000000 ≤ lo ∧ lo ≤ hi ∧ hi ≤ 1000000000000 then (lo, hi, true) else (0, 0, false) := by
      unfold told2
      simp only [ok2_iff]
    rw [e]
    exact Ev.now _
  | succ d ih =>
    intro i lo hi h
    refine Ev.step (fun k => by simp only [impl_folded_101.l0]; rfl) ?_
    simp only [show (i : Int) < (l.length : Int) by omega, show (0 : Int) ≤ (i : Int) by omega, if_true, iIvalOk_eq, Option.bind_some]
    rw [rdI_nat l i (by omega), List.drop_eq_getElem_cons (show i < l.length by omega), jFold, w64 (by omega) (by omega)]
    change Ev (fun k => if ivOk (l[i]'(by omega)) = true then _ else _) _
    by_cases c : ivOk (l[i]'(by omega)) = true
    · simp only [c, if_true, impl_JoinAll_1.f, Option.bind_some]
      exact ih (i + 1) _ _ (by omega)
    · simp only [c, if_false]
      exact Ev.now _
theorem iJoinAll_ev (l : List IV) : Ev (fun k => impl_JoinAll.f k l) (joinAll l) := by
  unfold impl_JoinAll.f impl_folded_101.f joinAll
  simp only [in_eq, Option.bind_some, decide_eq_true_eq]
  by_cases c : 1 ≤ l.length ∧ l.length ≤ 64
  · rw [if_pos c]
    simp only [show (1 : Int) ≤ (l.length : Int) ∧ (l.length : Int) ≤ 64 by omega, show (0 : Int) < (l.length : Int) by omega, and_self, if_true]
    refine Ev.bind (a := jFold (rd_T30 l 0).f0 (rd_T30 l 0).f1 l) ?_ (Ev.now _)
    have := iJoin_l0 l c.2 l.length 0 (rd_T30 l 0).f0 (rd_T30 l 0).f1 (by omega)
    simpa using this
  · rw [if_neg c]
    simp only [show ¬ ((1 : Int) ≤ (l.length : Int) ∧ (l.length : Int) ≤ 64) by omega, if_false, Option.bind_some]
    exact Ev.now _
theorem told2_eqJ (a b : Int) : spec_l1Told.f a b = some (told2 a b) := by
  rw [told_eq]
  unfold told2
  simp only [ok2_iff]
def join2 (a b c d : Int) : Int × Int × Bool := if ok2 a b = true ∧ ok2 c d = true then told2 (mn a c) (mx b d) else (0, 0, false)
theorem sJoin_eq (k : Nat) (a b c d : Int) : spec_Join.f (k + 1) a b c d = some (join2 a b c d) := by
  unfold spec_Join.f join2
  simp only [sIvalOk_eq, Option.bind_some, spec_Join.j0, l1Max_eq, l1Min_eq, told2_eqJ]
  change (if ok2 a b = true then (if (!ok2 c d) = true then _ else _) else _) = _
  by_cases c1 : ok2 a b = true <;> by_cases c2 : ok2 c d = true <;> simp [c1, c2]
theorem joinAll_two (a b c d : Int) : joinAll [⟨a, b⟩, ⟨c, d⟩] = join2 a b c d := by
  have e0 : rd_T30 [(⟨a, b⟩ : IV), ⟨c, d⟩] 0 = ⟨a, b⟩ := rfl
  unfold joinAll join2
  rw [if_pos ⟨by simp, by simp⟩, e0]
  simp only [jFold, ivOk]
  have ea : mn a a = a := by unfold mn; split <;> rfl
  have eb : mx b b = b := by unfold mx; split <;> rfl
  rw [ea, eb]
  by_cases c1 : ok2 a b = true <;> by_cases c2 : ok2 c d = true <;> simp [c1, c2]
theorem iJoin_ev (a b c d : Int) : Ev (fun k => impl_Join.f k a b c d) (join2 a b c d) := by
  unfold impl_Join.f
  refine Ev.bind (iJoinAll_ev _) ?_
  rw [joinAll_two]
  exact Ev.now _
theorem ev1 {α : Type} {g : Nat → Option α} {r : α} (h : ∀ k, g (k + 1) = some r) : Ev g r := ⟨1, fun k hk => by obtain ⟨m, rfl⟩ : ∃ m, k = m + 1 := ⟨k - 1, by omega⟩; exact h m⟩

theorem FnExactJoin (a0_0 a0_1 a1_0 a1_1 : Int) (_h : (Lit.int .i64 a0_0).wf = true ∧ (Lit.int .i64 a0_1).wf = true) (_h1 : (Lit.int .i64 a1_0).wf = true ∧ (Lit.int .i64 a1_1).wf = true) : ∃ k, laws_FnExactJoin.f k a0_0 a0_1 a1_0 a1_1 = some true := by
  apply Ev.rounds
  unfold laws_FnExactJoin.f
  simp only [toIval_eq, Option.bind_some]
  refine Ev.bind (ev1 fun k => sJoin_eq k _ _ _ _) ?_
  refine Ev.bind (iJoin_ev _ _ _ _) ?_
  simp only [eqIval_self, Option.bind_some, if_true, bne_self_eq_false, Bool.false_eq_true, if_false]
  exact Ev.now true

end Go.Proofs.Ytimikgeppdgpkaa.Pure
