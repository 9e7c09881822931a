/- The plain half of FnExactPutNum: what the printed functions compute, over numbers and lists alone. No condition. -/
import Derived.Test.YtlijhbkmppphmaaXFnExactPutNumx
import Derived.OpenShut
namespace Go.Proofs.Ytlijhbkmppphmaa.Pure
open Go.RowKit Go.Proofs.Ytlijhbkmppphmaa.XFnExactPutNum Go.Proofs.YtlijhbkmppphmaaW.PrintWords Go.Proofs.YtlijhbkmppphmaaW.PrintLast Go.Proofs.YtlijhbkmppphmaaW.PrintMore
set_option linter.unusedVariables false
set_option linter.unusedSimpArgs false
theorem wf64 {x : Int} (h : (Lit.int .i64 x).wf = true) : -9223372036854775808 ≤ x ∧ x ≤ 9223372036854775807 := by
  simp [Lit.wf, IntKind.min, IntKind.max, IntKind.signed, IntKind.bits] at h
  omega
theorem w64 {x : Int} (h1 : -9223372036854775808 ≤ x) (h2 : x ≤ 9223372036854775807) : wrap64 x = x := by
  unfold wrap64
  omega
/-- All of a list are bytes. -/
def U8s (l : List Int) : Prop := ∀ x ∈ l, (Lit.int .u8 x).wf = true
theorem u8s_rd {l : List Int} (h : U8s l) (i : Int) : 0 ≤ rd l i ∧ rd l i ≤ 255 := by
  unfold rd
  rw [List.getD_eq_getElem?_getD]
  rcases Nat.lt_or_ge i.toNat l.length with hi | hi
  · rw [List.getElem?_eq_getElem hi]
    exact Go.bounds_u8 (h _ (List.getElem_mem hi))
  · rw [List.getElem?_eq_none hi]
    decide
theorem rd_nat (l : List Int) (i : Nat) (hi : i < l.length) : rd l (i : Int) = l[i] := by
  unfold rd
  rw [List.getD_eq_getElem?_getD]
  simp [List.getElem?_eq_getElem hi]
theorem eqByteS_l0 (l : List Int) (hl : l.length ≤ 9223372036854775806) (d : Nat) : ∀ i : Nat, i + d = l.length → Ev (fun k => laws_eqByteS.l0 k l l i) true := by
  induction d with
  | zero =>
    intro i hi
    refine Ev.step (fun k => by simp only [laws_eqByteS.l0]; rfl) ?_
    simp only [show ¬ ((i : Int) < (l.length : Int)) by omega, if_false]
    exact Ev.now true
  | succ d ih =>
    intro i hi
    refine Ev.step (fun k => by simp only [laws_eqByteS.l0]; rfl) ?_
    simp only [show (i : Int) < (l.length : Int) by omega, show (0 : Int) ≤ (i : Int) by omega, if_true]
    rw [w64 (by omega) (by omega)]
    exact ih (i + 1) (by omega)
theorem eqByteS_ev (l : List Int) (hl : l.length ≤ 9223372036854775806) : Ev (fun k => laws_eqByteS.f k l l) true := by
  unfold laws_eqByteS.f
  simp only [if_true]
  exact eqByteS_l0 l hl l.length 0 (by omega)
/-- The number form. -/
def numL (x : Nat) : List Int := if h : x < 128 then [(x : Int)] else ((x % 128 + 128 : Nat) : Int) :: numL (x / 128)
termination_by x
decreasing_by omega
theorem numL_small (x : Nat) (h : x < 128) : numL x = [(x : Int)] := by rw [numL, dif_pos h]
theorem numL_big (x : Nat) (h : ¬ x < 128) : numL x = ((x % 128 + 128 : Nat) : Int) :: numL (x / 128) := by rw [numL, dif_neg h]
theorem numL_pos (x : Nat) : 0 < (numL x).length := by
  by_cases h : x < 128
  · simp [numL_small x h]
  · simp [numL_big x h]
theorem numL_len (n : Nat) : ∀ x : Nat, x < 128 ^ (n + 1) → (numL x).length ≤ n + 1 := by
  induction n with
  | zero =>
    intro x h
    rw [numL_small x (by simpa using h)]
    simp
  | succ n ih =>
    intro x h
    by_cases c : x < 128
    · simp [numL_small x c]
    · rw [numL_big x c, List.length_cons]
      have h2 : x < 128 * 128 ^ (n + 1) := by rw [Nat.pow_succ] at h; omega
      have : x / 128 < 128 ^ (n + 1) := Nat.div_lt_of_lt_mul h2
      have := ih (x / 128) this
      omega
theorem numL_len9 (x : Nat) (h : x < 9223372036854775808) : (numL x).length ≤ 9 := numL_len 8 x (by simpa using h)
theorem numL_mono (y : Nat) : ∀ x : Nat, x ≤ y → (numL x).length ≤ (numL y).length := by
  induction y using Nat.strongRecOn with
  | _ y ih =>
    intro x h
    by_cases c : x < 128
    · rw [numL_small x c]
      exact numL_pos y
    · rw [numL_big x c, numL_big y (by omega), List.length_cons, List.length_cons]
      have := ih (y / 128) (by omega) (x / 128) (by omega)
      omega
theorem numL_u8 (y : Nat) : ∀ c ∈ numL y, 0 ≤ c ∧ c ≤ 255 := by
  induction y using Nat.strongRecOn with
  | _ y ih =>
    by_cases c : y < 128
    · rw [numL_small y c]
      intro d hd
      rw [List.mem_singleton.1 hd]
      omega
    · rw [numL_big y c]
      intro d hd
      rcases List.mem_cons.1 hd with rfl | hd
      · omega
      · exact ih (y / 128) (by omega) d hd
theorem iPutNum_l0 (y : Nat) : ∀ (acc : List Int), y < 9223372036854775808 → acc.length + (numL y).length < 140737488355328 → Ev (fun k => impl_PutNum.l0 k (y : Int) acc) (acc ++ numL y) := by
  induction y using Nat.strongRecOn with
  | _ y ih =>
    intro acc hy hl
    have hp := numL_pos y
    refine Ev.step (fun k => by simp only [impl_PutNum.l0]; rfl) ?_
    by_cases c : y < 128
    · simp only [show ¬ ((y : Int) ≥ 128) by omega, show acc.length < 140737488355328 by omega, if_true, if_false]
      rw [numL_small y c, show (y : Int) % 256 = y by omega]
      exact Ev.now _
    · simp only [show (y : Int) ≥ 128 by omega, show acc.length < 140737488355328 by omega, if_true]
      rw [numL_big y c] at hl ⊢
      have e1 : wrap64 (Int.tdiv (y : Int) 128) = ((y / 128 : Nat) : Int) := by
        rw [Int.tdiv_eq_ediv_of_nonneg (by omega), w64 (by omega) (by omega)]
        omega
      have e2 : wrap64 (Int.tmod (y : Int) 128 + 128) % 256 = ((y % 128 + 128 : Nat) : Int) := by
        rw [Int.tmod_eq_emod_of_nonneg (by omega), w64 (by omega) (by omega)]
        omega
      rw [e1, e2]
      rw [List.length_cons] at hl
      have := ih (y / 128) (by omega) (acc ++ [((y % 128 + 128 : Nat) : Int)]) (by omega) (by rw [List.length_append, List.length_singleton]; omega)
      rw [List.append_assoc] at this
      exact this
theorem iPutNum_ev (x : Int) (h0 : 0 ≤ x) (h1 : x ≤ 9223372036854775807) : Ev (fun k => impl_PutNum.f k x) (numL x.toNat) := by
  obtain ⟨y, rfl⟩ := Int.eq_ofNat_of_zero_le h0
  unfold impl_PutNum.f
  simp only [show ¬ ((y : Int) < 0) by omega, if_false]
  have h9 := numL_len9 y (by omega)
  have := iPutNum_l0 y [] (by omega) (by rw [List.length_nil]; omega)
  simpa using this
theorem iPutNum_neg (x : Int) (h : x < 0) : Ev (fun k => impl_PutNum.f k x) [] := by
  unfold impl_PutNum.f
  simp only [h, if_true]
  exact Ev.now _
theorem sPutNum_l0 (y : Nat) : ∀ (acc : List Int), y < 9223372036854775808 → acc.length + (numL y).length < 140737488355328 → Ev (fun k => spec_PutNum.l0 k (y : Int) acc) (acc ++ numL y) := by
  induction y using Nat.strongRecOn with
  | _ y ih =>
    intro acc hy hl
    have hp := numL_pos y
    refine Ev.step (fun k => by simp only [spec_PutNum.l0]; rfl) ?_
    by_cases c : y < 128
    · simp only [show ¬ ((y : Int) > 127) by omega, show acc.length < 140737488355328 by omega, if_true, if_false]
      rw [numL_small y c, show (y : Int) % 256 = y by omega]
      exact Ev.now _
    · simp only [show (y : Int) > 127 by omega, show acc.length < 140737488355328 by omega, if_true]
      rw [numL_big y c] at hl ⊢
      have e1 : wrap64 (Int.tdiv (y : Int) 128) = ((y / 128 : Nat) : Int) := by
        rw [Int.tdiv_eq_ediv_of_nonneg (by omega), w64 (by omega) (by omega)]
        omega
      have e2 : wrap64 (Int.tmod (y : Int) 128 + 128) % 256 = ((y % 128 + 128 : Nat) : Int) := by
        rw [Int.tmod_eq_emod_of_nonneg (by omega), w64 (by omega) (by omega)]
        omega
      rw [e1, e2]
      rw [List.length_cons] at hl
      have := ih (y / 128) (by omega) (acc ++ [((y % 128 + 128 : Nat) : Int)]) (by omega) (by rw [List.length_append, List.length_singleton]; omega)
      rw [List.append_assoc] at this
      exact this
theorem sPutNum_ev (x : Int) (h0 : 0 ≤ x) (h1 : x ≤ 9223372036854775807) : Ev (fun k => spec_PutNum.f k x) (numL x.toNat) := by
  obtain ⟨y, rfl⟩ := Int.eq_ofNat_of_zero_le h0
  unfold spec_PutNum.f
  simp only [show ¬ ((y : Int) < 0) by omega, if_false, Option.bind_some]
  have h9 := numL_len9 y (by omega)
  have := sPutNum_l0 y [] (by omega) (by rw [List.length_nil]; omega)
  simpa using this
theorem sPutNum_neg (x : Int) (h : x < 0) : Ev (fun k => spec_PutNum.f k x) [] := by
  unfold spec_PutNum.f
  simp only [h, if_true, Option.bind_some]
  exact Ev.now _
/-- What marking writes. -/
def mkB (m n : Nat) : List Int := (List.range n).map fun j => ((m + j : Nat) : Int) % 256
theorem mkB_len (m n : Nat) : (mkB m n).length = n := by simp [mkB]
theorem mkB_succ (m n : Nat) : mkB m (n + 1) = mkB m n ++ [((m + n : Nat) : Int) % 256] := by simp [mkB, List.range_succ]
theorem mkB_get (m n i : Nat) (h : i < n) : rd (mkB m n) (i : Int) = ((m + i : Nat) : Int) % 256 := by
  rw [rd_nat _ i (by rw [mkB_len]; exact h)]
  simp [mkB]
theorem markB_l0 (l : List Int) (m : Nat) (hl : m + l.length ≤ 9223372036854775806) (d : Nat) : ∀ i : Nat, i + d = l.length →
    Ev (fun k => laws_markByteS.l0 k (mkB m i ++ l.drop i) ((m + i : Nat) : Int) (i : Int)) (((m + l.length : Nat) : Int), mkB m l.length) := by
  induction d with
  | zero =>
    intro i hi
    refine Ev.step (fun k => by simp only [laws_markByteS.l0]; rfl) ?_
    have hlen : (mkB m i ++ l.drop i).length = l.length := by rw [List.length_append, mkB_len, List.length_drop]; omega
    rw [hlen]
    simp only [show ¬ ((i : Int) < (l.length : Int)) by omega, if_false]
    have : i = l.length := by omega
    subst this
    rw [List.drop_length, List.append_nil]
    exact Ev.now _
  | succ d ih =>
    intro i hi
    refine Ev.step (fun k => by simp only [laws_markByteS.l0]; rfl) ?_
    have hlen : (mkB m i ++ l.drop i).length = l.length := by rw [List.length_append, mkB_len, List.length_drop]; omega
    rw [hlen]
    simp only [show (i : Int) < (l.length : Int) by omega, show (0 : Int) ≤ (i : Int) by omega, if_true, Int.toNat_natCast]
    have e : (mkB m i ++ l.drop i).set i (((m + i : Nat) : Int) % 256) = mkB m (i + 1) ++ l.drop (i + 1) := by
      rw [List.set_append_right _ _ (by rw [mkB_len]; exact Nat.le_refl i), mkB_len, Nat.sub_self, List.drop_eq_getElem_cons (by omega), List.set_cons_zero, mkB_succ, List.append_assoc]
      rfl
    rw [e, w64 (by omega) (by omega), w64 (by omega) (by omega)]
    exact ih (i + 1) (by omega)
theorem markB_ev (l : List Int) (m : Nat) (hl : m + l.length ≤ 9223372036854775806) : Ev (fun k => laws_markByteS.f k l (m : Int)) (((m + l.length : Nat) : Int), mkB m l.length) := by
  unfold laws_markByteS.f
  have := markB_l0 l m hl l.length 0 (by omega)
  simpa [mkB] using this
theorem heldB_l0 (m n : Nat) (hl : m + n ≤ 9223372036854775806) (d : Nat) : ∀ i : Nat, i + d = n → Ev (fun k => laws_heldByteS.l0 k (mkB m n) ((m + i : Nat) : Int) (i : Int)) ((m + n : Nat) : Int) := by
  induction d with
  | zero =>
    intro i hi
    refine Ev.step (fun k => by simp only [laws_heldByteS.l0]; rfl) ?_
    rw [mkB_len]
    simp only [show ¬ ((i : Int) < (n : Int)) by omega, if_false]
    have : i = n := by omega
    subst this
    exact Ev.now _
  | succ d ih =>
    intro i hi
    refine Ev.step (fun k => by simp only [laws_heldByteS.l0]; rfl) ?_
    rw [mkB_len, mkB_get m n i (by omega)]
    simp only [show (i : Int) < (n : Int) by omega, show (0 : Int) ≤ (i : Int) by omega, if_true]
    rw [w64 (by omega) (by omega), w64 (by omega) (by omega)]
    exact ih (i + 1) (by omega)
theorem heldB_ev (m n : Nat) (hl : m + n ≤ 9223372036854775806) : Ev (fun k => laws_heldByteS.f k (mkB m n) (m : Int)) ((m + n : Nat) : Int) := by
  unfold laws_heldByteS.f
  have := heldB_l0 m n hl n 0 (by omega)
  simpa using this
theorem PutNum_law (a0 : Int) (l : List Int) (hl : l.length ≤ 9) (hs : Ev (fun k => spec_PutNum.f k a0) l) (hi : Ev (fun k => impl_PutNum.f k a0) l) : Ev (fun k => laws_FnExactPutNum.f k a0) true := by
  unfold laws_FnExactPutNum.f
  refine Ev.bind hs ?_
  refine Ev.bind hi ?_
  refine Ev.bind (eqByteS_ev l (by omega)) ?_
  simp only [if_true]
  refine Ev.bind (markB_ev l 1 (by omega)) ?_
  refine Ev.bind (heldB_ev 1 l.length (by omega)) ?_
  simp only [show ¬ (((1 + l.length : Nat) : Int) < 0) by omega, if_true, if_false]
  refine Ev.bind hi ?_
  refine Ev.bind (eqByteS_ev l (by omega)) ?_
  simp only [if_true]
  refine Ev.bind (heldB_ev 1 l.length (by omega)) ?_
  simp only [show ¬ (((1 + l.length : Nat) : Int) < 0) by omega, if_true, if_false]
  exact Ev.now true
theorem FnExactPutNum (a0 : Int) (h : (Lit.int .i64 a0).wf = true) : ∃ k, laws_FnExactPutNum.f k a0 = some true := by
  have hb := wf64 h
  apply Ev.rounds
  by_cases c : a0 < 0
  · exact PutNum_law a0 [] (by simp) (sPutNum_neg a0 c) (iPutNum_neg a0 c)
  · exact PutNum_law a0 (numL a0.toNat) (numL_len9 _ (by omega)) (sPutNum_ev a0 (by omega) (by omega)) (iPutNum_ev a0 (by omega) (by omega))

end Go.Proofs.Ytlijhbkmppphmaa.Pure
