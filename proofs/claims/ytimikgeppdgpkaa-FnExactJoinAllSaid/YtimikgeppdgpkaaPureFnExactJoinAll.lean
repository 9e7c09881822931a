/- The plain half of FnExactJoinAll: what the printed functions compute, over numbers and lists alone. No condition. -/
import Derived.Test.YtimikgeppdgpkaaXFnExactJoinAllx
import Derived.OpenShut
namespace Go.Proofs.Ytimikgeppdgpkaa.Pure
open Go.RowKit Go.Proofs.Ytimikgeppdgpkaa.XFnExactJoinAll Go.Proofs.YtimikgeppdgpkaaW.PrintWords Go.Proofs.YtimikgeppdgpkaaW.PrintLast Go.Proofs.YtimikgeppdgpkaaW.PrintMore
set_option linter.unusedVariables false
set_option linter.unusedSimpArgs false
theorem wf64 {x : Int} (h : (Lit.int .i64 x).wf = true) : -9223372036854775808 ≤ x ∧ x ≤ 9223372036854775807 := by
  simp [Lit.wf, IntKind.min, IntKind.max, IntKind.signed, IntKind.bits] at h
  omega
theorem w64 {x : Int} (h1 : -9223372036854775808 ≤ x) (h2 : x ≤ 9223372036854775807) : wrap64 x = x := by
  unfold wrap64
  omega
theorem in_eq (a b c : Int) : impl_in.f a b c = some (decide (b ≤ a ∧ a ≤ c)) := by
  unfold impl_in.f
  by_cases h : b ≤ a <;> simp [h]
theorem l1In_eq (a b c : Int) : spec_l1In.f a b c = some (decide (b ≤ a ∧ a ≤ c)) := by
  unfold spec_l1In.f
  by_cases h : b ≤ a <;> simp [h]
theorem iIvalOk_eq (a b : Int) : impl_IvalOk.f a b = some (decide (-1000000000000 ≤ a ∧ a ≤ b ∧ b ≤ 1000000000000)) := by
  unfold impl_IvalOk.f
  by_cases h : -1000000000000 ≤ a <;> by_cases h2 : a ≤ b <;> simp [h, h2]
theorem sIvalOk_eq (a b : Int) : spec_IvalOk.f a b = some (decide (-1000000000000 ≤ a ∧ a ≤ b ∧ b ≤ 1000000000000)) := by
  unfold spec_IvalOk.f
  simp only [l1In_eq, Option.bind_some, decide_eq_true_eq]
  by_cases h : a ≤ b
  · rw [if_pos h]
    by_cases h2 : -1000000000000 ≤ a ∧ a ≤ 1000000000000
    · rw [if_pos h2]
      simp only [Option.some.injEq, decide_eq_decide]
      omega
    · rw [if_neg h2]
      simp only [Option.some.injEq]
      exact (decide_eq_false (by omega)).symm
  · rw [if_neg h]
    simp only [Option.some.injEq]
    exact (decide_eq_false (by omega)).symm
theorem toIval_eq (a b : Int) : laws_toIval.f a b = some (a, b) := rfl
theorem eqIval_self (a b : Int) : laws_eqIval.f a b a b = some true := by
  unfold laws_eqIval.f
  simp
theorem told_eq (a b : Int) : spec_l1Told.f a b = some (if -1000000000000 ≤ a ∧ a ≤ b ∧ b ≤ 1000000000000 then (a, b, true) else (0, 0, false)) := by
  unfold spec_l1Told.f
  simp only [sIvalOk_eq, Option.bind_some, decide_eq_true_eq]
  split <;> rfl
theorem ival_eq (a b : Int) : impl_ival.f a b = some (if -1000000000000 ≤ a ∧ a ≤ b ∧ b ≤ 1000000000000 then (a, b, true) else (0, 0, false)) := by
  unfold impl_ival.f
  simp only [iIvalOk_eq, Option.bind_some, decide_eq_true_eq]
  split <;> rfl
theorem l1Max_eq (a b : Int) : spec_l1Max.f a b = some (mx a b) := by
  unfold spec_l1Max.f mx
  by_cases h : a > b
  · rw [if_pos h, if_neg (by omega)]
  · rw [if_neg h]
    by_cases h2 : a < b
    · rw [if_pos h2]
    · rw [if_neg h2]
      have : a = b := by omega
      rw [this]
theorem l1Min_eq (a b : Int) : spec_l1Min.f a b = some (mn a b) := by
  unfold spec_l1Min.f mn
  by_cases h : a < b
  · rw [if_pos h, if_neg (by omega)]
  · rw [if_neg h]
    by_cases h2 : b < a
    · rw [if_pos h2]
    · rw [if_neg h2]
      have : a = b := by omega
      rw [this]
abbrev IV := S30
theorem rdI_nat (l : List IV) (i : Nat) (hi : i < l.length) : rd_T30 l (i : Int) = l[i] := by
  unfold rd_T30
  rw [List.getD_eq_getElem?_getD]
  simp [List.getElem?_eq_getElem hi]
def ok2 (a b : Int) : Bool := decide (-1000000000000 ≤ a ∧ a ≤ b ∧ b ≤ 1000000000000)
theorem ok2_iff {a b : Int} : ok2 a b = true ↔ -1000000000000 ≤ a ∧ a ≤ b ∧ b ≤ 1000000000000 := by unfold ok2; exact decide_eq_true_iff
def ivOk (x : IV) : Bool := ok2 x.f0 x.f1
def told2 (a b : Int) : Int × Int × Bool := if ok2 a b = true then (a, b, true) else (0, 0, false)
def mFold (lo hi : Int) : List IV → Int × Int × Bool
  | [] => told2 lo hi
  | x :: l => if ivOk x = true then mFold (mx lo x.f0) (mn hi x.f1) l else (0, 0, false)
def jFold (lo hi : Int) : List IV → Int × Int × Bool
  | [] => told2 lo hi
  | x :: l => if ivOk x = true then jFold (mn lo x.f0) (mx hi x.f1) l else (0, 0, false)
/-- What MeetAll and JoinAll tell. -/
def meetAll (l : List IV) : Int × Int × Bool := if 1 ≤ l.length ∧ l.length ≤ 64 then mFold (rd_T30 l 0).f0 (rd_T30 l 0).f1 l else (0, 0, false)
def joinAll (l : List IV) : Int × Int × Bool := if 1 ≤ l.length ∧ l.length ≤ 64 then jFold (rd_T30 l 0).f0 (rd_T30 l 0).f1 l else (0, 0, false)
theorem mFold_bad (l : List IV) : ∀ lo hi, (∃ x ∈ l, ivOk x = false) → mFold lo hi l = (0, 0, false) := by
  induction l with
  | nil => intro lo hi h; obtain ⟨x, hx, _⟩ := h; simp at hx
  | cons y l ih =>
    intro lo hi h
    rw [mFold]
    by_cases c : ivOk y = true
    · rw [if_pos c]
      obtain ⟨x, hx, hb⟩ := h
      rcases List.mem_cons.1 hx with rfl | hx
      · rw [c] at hb
        cases hb
      · exact ih _ _ ⟨x, hx, hb⟩
    · rw [if_neg c]
theorem jFold_bad (l : List IV) : ∀ lo hi, (∃ x ∈ l, ivOk x = false) → jFold lo hi l = (0, 0, false) := by
  induction l with
  | nil => intro lo hi h; obtain ⟨x, hx, _⟩ := h; simp at hx
  | cons y l ih =>
    intro lo hi h
    rw [jFold]
    by_cases c : ivOk y = true
    · rw [if_pos c]
      obtain ⟨x, hx, hb⟩ := h
      rcases List.mem_cons.1 hx with rfl | hx
      · rw [c] at hb
        cases hb
      · exact ih _ _ ⟨x, hx, hb⟩
    · rw [if_neg c]
theorem mFold_empty (l : List IV) : ∀ lo hi, hi < lo → mFold lo hi l = (0, 0, false) := by
  induction l with
  | nil =>
    intro lo hi h
    rw [mFold, told2, if_neg]
    rw [ok2_iff]
    omega
  | cons y l ih =>
    intro lo hi h
    rw [mFold]
    split
    · exact ih _ _ (by unfold mx mn; omega)
    · rfl
theorem iJoin_l0 (l : List IV) (hl : l.length ≤ 64) (d : Nat) : ∀ (i : Nat) (lo hi : Int), i + d = l.length → Ev (fun k => impl_folded_101.l0 k l (l.length : Int) (i : Int) lo hi) (jFold lo hi (l.drop i)) := by
  induction d with
  | zero =>
    intro i lo hi h
    refine Ev.step (fun k => by simp only [impl_folded_101.l0]; rfl) ?_
    simp only [show ¬ ((i : Int) < (l.length : Int)) by omega, if_false, ival_eq, Option.bind_some]
    rw [List.drop_eq_nil_of_le (by omega), jFold]
    have e : told2 lo hi = if -1000000000000 ≤ lo ∧ lo ≤ hi ∧ hi ≤ 1000000000000 then (lo, hi, true) else (0, 0, false) := by
      unfold told2
      simp only [ok2_iff]
    rw [e]
    exact Ev.now _
  | succ d ih =>
    intro i lo hi h
    refine Ev.step (fun k => by simp only [impl_folded_101.l0]; rfl) ?_
    simp only [show (i : Int) < (l.length : Int) by omega, show (0 : Int) ≤ (i : Int) by omega, if_true, iIvalOk_eq, Option.bind_some]
    rw [rdI_nat l i (by omega), List.drop_eq_getElem_cons (show i < l.length by omega), jFold, w64 (by omega) (by omega)]
    change Ev (fun k => if ivOk (l[i]'(by omega)) = true then _ else _) _
    by_cases c : ivOk (l[i]'(by omega)) = true
    · simp only [c, if_true, impl_JoinAll_1.f, Option.bind_some]
      exact ih (i + 1) _ _ (by omega)
    · simp only [c, if_false]
      exact Ev.now _
theorem iJoinAll_ev (l : List IV) : Ev (fun k => impl_JoinAll.f k l) (joinAll l) := by
  unfold impl_JoinAll.f impl_folded_101.f joinAll
  simp only [in_eq, Option.bind_some, decide_eq_true_eq]
  by_cases c : 1 ≤ l.length ∧ l.length ≤ 64
  · rw [if_pos c]
    simp only [show (1 : Int) ≤ (l.length : Int) ∧ (l.length : Int) ≤ 64 by omega, show (0 : Int) < (l.length : Int) by omega, and_self, if_true]
    refine Ev.bind (a := jFold (rd_T30 l 0).f0 (rd_T30 l 0).f1 l) ?_ (Ev.now _)
    have := iJoin_l0 l c.2 l.length 0 (rd_T30 l 0).f0 (rd_T30 l 0).f1 (by omega)
    simpa using this
  · rw [if_neg c]
    simp only [show ¬ ((1 : Int) ≤ (l.length : Int) ∧ (l.length : Int) ≤ 64) by omega, if_false, Option.bind_some]
    exact Ev.now _
theorem told2_eqJ (a b : Int) : spec_l1Told.f a b = some (told2 a b) := by
  rw [told_eq]
  unfold told2
  simp only [ok2_iff]
def join2 (a b c d : Int) : Int × Int × Bool := if ok2 a b = true ∧ ok2 c d = true then told2 (mn a c) (mx b d) else (0, 0, false)
theorem sJoin_eq (k : Nat) (a b c d : Int) : spec_Join.f (k + 1) a b c d = some (join2 a b c d) := by
  unfold spec_Join.f join2
  simp only [sIvalOk_eq, Option.bind_some, spec_Join.j0, l1Max_eq, l1Min_eq, told2_eqJ]
  change (if ok2 a b = true then (if (!ok2 c d) = true then _ else _) else _) = _
  by_cases c1 : ok2 a b = true <;> by_cases c2 : ok2 c d = true <;> simp [c1, c2]
theorem sAll_l0 (l : List IV) (hl : l.length ≤ 64) (d : Nat) : ∀ (i : Nat), i + d = l.length → Ev (fun k => spec_l1All.l0 k l (i : Int)) ((l.drop i).all ivOk) := by
  induction d with
  | zero =>
    intro i h
    refine Ev.step (fun k => by simp only [spec_l1All.l0]; rfl) ?_
    simp only [show ¬ ((i : Int) < (l.length : Int)) by omega, if_false]
    rw [List.drop_eq_nil_of_le (by omega)]
    exact Ev.now _
  | succ d ih =>
    intro i h
    refine Ev.step (fun k => by simp only [spec_l1All.l0]; rfl) ?_
    simp only [show (i : Int) < (l.length : Int) by omega, show (0 : Int) ≤ (i : Int) by omega, if_true, sIvalOk_eq, Option.bind_some]
    rw [rdI_nat l i (by omega), List.drop_eq_getElem_cons (show i < l.length by omega), List.all_cons, w64 (by omega) (by omega)]
    change Ev (fun k => if ivOk (l[i]'(by omega)) = true then _ else _) _
    by_cases c : ivOk (l[i]'(by omega)) = true
    · simp only [c, if_true, Bool.true_and]
      exact ih (i + 1) (by omega)
    · rw [Bool.not_eq_true] at c
      simp only [c, Bool.false_eq_true, if_false, Bool.false_and]
      exact Ev.now _
theorem sAll_ev (l : List IV) : Ev (fun k => spec_l1All.f k l 64) (decide (l.length ≤ 64) && l.all ivOk) := by
  unfold spec_l1All.f
  by_cases c : (l.length : Int) > 64
  · simp only [c, if_true, show ¬ (l.length ≤ 64) by omega, decide_false, Bool.false_and]
    exact Ev.now _
  · simp only [c, if_false, show l.length ≤ 64 by omega, decide_true, Bool.true_and]
    have := sAll_l0 l (by omega) l.length 0 (by omega)
    simpa using this
theorem sJoin_l0 (l : List IV) (hl : l.length ≤ 64) (hok : l.all ivOk = true) (d : Nat) : ∀ (i : Nat) (lo hi : Int), i + d = l.length → ok2 lo hi = true → Ev (fun k => spec_JoinAll.l0 k l (i : Int) lo hi) (jFold lo hi (l.drop i)) := by
  induction d with
  | zero =>
    intro i lo hi h ho
    refine Ev.step (fun k => by simp only [spec_JoinAll.l0]; rfl) ?_
    simp only [show ¬ ((i : Int) < (l.length : Int)) by omega, if_false]
    rw [List.drop_eq_nil_of_le (by omega), jFold, told2, if_pos ho]
    exact Ev.now _
  | succ d ih =>
    intro i lo hi h ho
    refine Ev.step (fun k => by simp only [spec_JoinAll.l0]; rfl) ?_
    simp only [show (i : Int) < (l.length : Int) by omega, show (0 : Int) ≤ (i : Int) by omega, if_true]
    have hx : ivOk (l[i]'(by omega)) = true := List.all_eq_true.1 hok _ (List.getElem_mem _)
    rw [rdI_nat l i (by omega), List.drop_eq_getElem_cons (show i < l.length by omega), jFold, if_pos hx, w64 (by omega) (by omega)]
    refine Ev.bind (a := join2 lo hi (l[i]'(by omega)).f0 (l[i]'(by omega)).f1) ⟨1, fun k hk => by obtain ⟨m, rfl⟩ : ∃ m, k = m + 1 := ⟨k - 1, by omega⟩; exact sJoin_eq m _ _ _ _⟩ ?_
    unfold ivOk at hx
    unfold join2
    rw [if_pos ⟨ho, hx⟩]
    have g1 := ok2_iff.1 ho
    have g2 := ok2_iff.1 hx
    unfold told2
    have hc : ok2 (mn lo (l[i]'(by omega)).f0) (mx hi (l[i]'(by omega)).f1) = true := ok2_iff.2 ⟨by unfold mn; omega, by unfold mn mx; omega, by unfold mx; omega⟩
    rw [if_pos hc]
    exact ih (i + 1) _ _ (by omega) hc
theorem all_falseJ {l : List IV} (h : l.all ivOk = false) : ∃ x ∈ l, ivOk x = false := by
  rw [List.all_eq_false] at h
  obtain ⟨x, hx, hb⟩ := h
  exact ⟨x, hx, by simpa using hb⟩
theorem jFold_first (x : IV) (l : List IV) (h : ivOk x = true) : jFold x.f0 x.f1 (x :: l) = jFold x.f0 x.f1 l := by
  rw [jFold, if_pos h]
  congr 1
  · unfold mn
    split <;> rfl
  · unfold mx
    split <;> rfl
theorem sJoinAll_ev (l : List IV) : Ev (fun k => spec_JoinAll.f k l) (joinAll l) := by
  unfold spec_JoinAll.f joinAll
  by_cases c0 : (l.length : Int) = 0
  · simp only [c0, if_true]
    rw [if_neg (by omega)]
    refine Ev.step (fun k => by simp only [spec_JoinAll.j0]; rfl) ?_
    simp only [if_true]
    exact Ev.now _
  · simp only [c0, if_false]
    refine Ev.bind (sAll_ev l) ?_
    refine Ev.step (fun k => by simp only [spec_JoinAll.j0]; rfl) ?_
    by_cases c1 : l.length ≤ 64
    · rw [if_pos ⟨by omega, c1⟩]
      cases c2 : l.all ivOk with
      | true =>
        simp only [c1, decide_true, Bool.and_self, Bool.not_true, Bool.false_eq_true, if_false, show (0 : Int) < (l.length : Int) by omega, if_true]
        cases l with
        | nil => simp at c0
        | cons x r =>
          have hx : ivOk x = true := List.all_eq_true.1 c2 x List.mem_cons_self
          have e0 : rd_T30 (x :: r) 0 = x := rfl
          rw [e0, jFold_first x r hx]
          have := sJoin_l0 (x :: r) c1 c2 r.length 1 x.f0 x.f1 (by rw [List.length_cons]; omega) hx
          simpa using this
      | false =>
        simp only [Bool.and_false, Bool.not_false, if_true]
        rw [jFold_bad _ _ _ (all_falseJ c2)]
        exact Ev.now _
    · rw [if_neg (by omega)]
      simp only [c1, decide_false, Bool.false_and, Bool.not_false, if_true]
      exact Ev.now _
theorem rdL_nat (l : List S54) (i : Nat) (hi : i < l.length) : rd_T54 l (i : Int) = l[i] := by
  unfold rd_T54
  rw [List.getD_eq_getElem?_getD]
  simp [List.getElem?_eq_getElem hi]
def cvI (x : S54) : IV := ⟨x.f0, x.f1⟩
theorem cvI_set (l : List S54) (i : Nat) (h : i < l.length) (z : IV) : ((l.take i).map cvI ++ List.replicate (l.length - i) z).set i (cvI l[i]) = (l.take (i + 1)).map cvI ++ List.replicate (l.length - (i + 1)) z := by
  have e : l.length - i = (l.length - (i + 1)) + 1 := by omega
  have e2 : ((l.take i).map cvI).length = i := by rw [List.length_map, List.length_take]; omega
  rw [e, List.replicate_succ, List.set_append_right _ _ (by omega), e2, Nat.sub_self, List.set_cons_zero, List.take_succ_eq_append_getElem h, List.map_append, List.append_assoc]
  rfl
theorem toIvalS_l0 (l : List S54) (hl : l.length ≤ 9223372036854775806) (z : IV) (d : Nat) : ∀ i : Nat, i + d = l.length → Ev (fun k => laws_toIvalS.l0 k l ((l.take i).map cvI ++ List.replicate (l.length - i) z) i) (l.map cvI) := by
  induction d with
  | zero =>
    intro i hi
    refine Ev.step (fun k => by simp only [laws_toIvalS.l0]; rfl) ?_
    simp only [show ¬ ((i : Int) < (l.length : Int)) by omega, if_false]
    rw [List.take_of_length_le (by omega), show l.length - i = 0 by omega]
    simpa using Ev.now (l.map cvI)
  | succ d ih =>
    intro i hi
    refine Ev.step (fun k => by simp only [laws_toIvalS.l0]; rfl) ?_
    have hlen : ((l.take i).map cvI ++ List.replicate (l.length - i) z).length = l.length := by
      rw [List.length_append, List.length_map, List.length_take, List.length_replicate]
      omega
    rw [hlen]
    simp only [show (i : Int) < (l.length : Int) by omega, show (0 : Int) ≤ (i : Int) by omega, if_true, Int.toNat_natCast, toIval_eq, Option.bind_some]
    rw [rdL_nat l i (by omega), w64 (by omega) (by omega)]
    have := ih (i + 1) (by omega)
    rw [← cvI_set l i (by omega) z] at this
    exact this
theorem toIvalS_ev (l : List S54) (hl : l.length ≤ 1048576) : Ev (fun k => laws_toIvalS.f k l) (l.map cvI) := by
  unfold laws_toIvalS.f
  simp only [show (0 : Int) ≤ (l.length : Int) by omega, Int.toNat_natCast, show l.length ≤ 17592186044416 by omega, if_true]
  have := toIvalS_l0 l (by omega) z30 l.length 0 (by omega)
  simpa using this
theorem eqIvalS_l0 (l : List IV) (hl : l.length ≤ 9223372036854775806) (d : Nat) : ∀ i : Nat, i + d = l.length → Ev (fun k => laws_eqIvalS.l0 k l l i) true := by
  induction d with
  | zero =>
    intro i hi
    refine Ev.step (fun k => by simp only [laws_eqIvalS.l0]; rfl) ?_
    simp only [show ¬ ((i : Int) < (l.length : Int)) by omega, if_false]
    exact Ev.now true
  | succ d ih =>
    intro i hi
    refine Ev.step (fun k => by simp only [laws_eqIvalS.l0]; rfl) ?_
    simp only [show (i : Int) < (l.length : Int) by omega, show (0 : Int) ≤ (i : Int) by omega, if_true, eqIval_self, Option.bind_some]
    rw [w64 (by omega) (by omega)]
    exact ih (i + 1) (by omega)
theorem eqIvalS_ev (l : List IV) (hl : l.length ≤ 9223372036854775806) : Ev (fun k => laws_eqIvalS.f k l l) true := by
  unfold laws_eqIvalS.f
  simp only [if_true]
  exact eqIvalS_l0 l hl l.length 0 (by omega)
theorem FnExactJoinAll (l0 : List S54) (_h : ∀ x ∈ l0, (Lit.int .i64 x.f0).wf = true ∧ (Lit.int .i64 x.f1).wf = true) (hm : l0.length ≤ 9223372036854775807) : ∃ k, laws_FnExactJoinAll.f k l0 = some true := by
  apply Ev.rounds
  unfold laws_FnExactJoinAll.f laws_szIvalS.f
  rw [w64 (x := 1048576 - (l0.length : Int)) (by omega) (by omega)]
  by_cases c : 1048576 - (l0.length : Int) < 0
  · simp only [c, if_true, Option.bind_some, show (-1 : Int) < 0 by omega]
    exact Ev.now true
  · simp only [c, if_false, Option.bind_some]
    refine Ev.bind (toIvalS_ev l0 (by omega)) ?_
    refine Ev.bind (sJoinAll_ev _) ?_
    refine Ev.bind (toIvalS_ev l0 (by omega)) ?_
    refine Ev.bind (iJoinAll_ev _) ?_
    simp only [eqIval_self, Option.bind_some, if_true, bne_self_eq_false]
    refine Ev.step (fun k => by simp only [laws_FnExactJoinAll.j0]; rfl) ?_
    simp only [Bool.false_eq_true, if_false]
    refine Ev.bind (toIvalS_ev l0 (by omega)) ?_
    refine Ev.bind (eqIvalS_ev _ (by rw [List.length_map]; omega)) ?_
    simp only [if_true]
    exact Ev.now true

end Go.Proofs.Ytimikgeppdgpkaa.Pure
