/- The plain half of FnExactGetNum: what the printed functions compute, over numbers and lists alone. No condition. -/
import Derived.Test.YtlijhbkmppphmaaXFnExactGetNumx
import Derived.OpenShut
namespace Go.Proofs.Ytlijhbkmppphmaa.Pure
open Go.RowKit Go.Proofs.Ytlijhbkmppphmaa.XFnExactGetNum Go.Proofs.YtlijhbkmppphmaaW.PrintWords Go.Proofs.YtlijhbkmppphmaaW.PrintLast Go.Proofs.YtlijhbkmppphmaaW.PrintMore
set_option linter.unusedVariables false
set_option linter.unusedSimpArgs false
theorem wf64 {x : Int} (h : (Lit.int .i64 x).wf = true) : -9223372036854775808 ≤ x ∧ x ≤ 9223372036854775807 := by
  simp [Lit.wf, IntKind.min, IntKind.max, IntKind.signed, IntKind.bits] at h
  omega
theorem w64 {x : Int} (h1 : -9223372036854775808 ≤ x) (h2 : x ≤ 9223372036854775807) : wrap64 x = x := by
  unfold wrap64
  omega
theorem in_eq (a b c : Int) : impl_in.f a b c = some (decide (b ≤ a ∧ a ≤ c)) := by
  unfold impl_in.f
  by_cases h : b ≤ a <;> simp [h]
/-- All of a list are bytes. -/
def U8s (l : List Int) : Prop := ∀ x ∈ l, (Lit.int .u8 x).wf = true
theorem u8s_rd {l : List Int} (h : U8s l) (i : Int) : 0 ≤ rd l i ∧ rd l i ≤ 255 := by
  unfold rd
  rw [List.getD_eq_getElem?_getD]
  rcases Nat.lt_or_ge i.toNat l.length with hi | hi
  · rw [List.getElem?_eq_getElem hi]
    exact Go.bounds_u8 (h _ (List.getElem_mem hi))
  · rw [List.getElem?_eq_none hi]
    decide
theorem rd_nat (l : List Int) (i : Nat) (hi : i < l.length) : rd l (i : Int) = l[i] := by
  unfold rd
  rw [List.getD_eq_getElem?_getD]
  simp [List.getElem?_eq_getElem hi]
theorem take_set_succ (l : List Int) (i : Nat) (h : i < l.length) : (l.take i ++ List.replicate (l.length - i) 0).set i l[i] = l.take (i + 1) ++ List.replicate (l.length - (i + 1)) 0 := by
  have e : l.length - i = (l.length - (i + 1)) + 1 := by omega
  rw [e, List.replicate_succ, List.set_append_right _ _ (List.length_take_le _ _), List.length_take, Nat.min_eq_left (by omega), Nat.sub_self, List.set_cons_zero, List.take_succ_eq_append_getElem h, List.append_assoc]
  rfl
theorem toByteS_l0 (l : List Int) (hl : l.length ≤ 9223372036854775806) (d : Nat) : ∀ i : Nat, i + d = l.length → Ev (fun k => laws_toByteS.l0 k l (l.take i ++ List.replicate (l.length - i) 0) i) l := by
  induction d with
  | zero =>
    intro i hi
    refine Ev.step (fun k => by simp only [laws_toByteS.l0]; rfl) ?_
    simp only [show ¬ ((i : Int) < (l.length : Int)) by omega, if_false]
    rw [List.take_of_length_le (by omega), show l.length - i = 0 by omega]
    simpa using Ev.now l
  | succ d ih =>
    intro i hi
    refine Ev.step (fun k => by simp only [laws_toByteS.l0]; rfl) ?_
    have hlen : (l.take i ++ List.replicate (l.length - i) (0 : Int)).length = l.length := by simp; omega
    rw [hlen]
    simp only [show (i : Int) < (l.length : Int) by omega, show (0 : Int) ≤ (i : Int) by omega, if_true, Int.toNat_natCast]
    rw [rd_nat l i (by omega), take_set_succ l i (by omega), w64 (by omega) (by omega)]
    exact ih (i + 1) (by omega)
theorem toByteS_ev (l : List Int) (hl : l.length ≤ 1048576) : Ev (fun k => laws_toByteS.f k l) l := by
  unfold laws_toByteS.f
  simp only [show (0 : Int) ≤ (l.length : Int) by omega, Int.toNat_natCast, show l.length ≤ 281474976710656 by omega, if_true]
  have := toByteS_l0 l (by omega) l.length 0 (by omega)
  simpa using this
theorem eqByteS_l0 (l : List Int) (hl : l.length ≤ 9223372036854775806) (d : Nat) : ∀ i : Nat, i + d = l.length → Ev (fun k => laws_eqByteS.l0 k l l i) true := by
  induction d with
  | zero =>
    intro i hi
    refine Ev.step (fun k => by simp only [laws_eqByteS.l0]; rfl) ?_
    simp only [show ¬ ((i : Int) < (l.length : Int)) by omega, if_false]
    exact Ev.now true
  | succ d ih =>
    intro i hi
    refine Ev.step (fun k => by simp only [laws_eqByteS.l0]; rfl) ?_
    simp only [show (i : Int) < (l.length : Int) by omega, show (0 : Int) ≤ (i : Int) by omega, if_true]
    rw [w64 (by omega) (by omega)]
    exact ih (i + 1) (by omega)
theorem eqByteS_ev (l : List Int) (hl : l.length ≤ 9223372036854775806) : Ev (fun k => laws_eqByteS.f k l l) true := by
  unfold laws_eqByteS.f
  simp only [if_true]
  exact eqByteS_l0 l hl l.length 0 (by omega)
theorem wrapi64 (n : Int) (h0 : 0 ≤ n) (h1 : n < 9223372036854775808) : IntKind.i64.wrap n = n := by
  rw [IntKind.wrap_i64]
  omega
theorem ofInt_i64 (a : Nat) (ha : a < 18446744073709551616) : (BitVec.ofInt 64 (a : Int)).toNat = a := by
  rw [BitVec.ofInt_natCast, BitVec.toNat_ofNat]
  exact Nat.mod_eq_of_lt ha
theorem xor_nat (a b : Nat) (ha : a < 256) (hb : b < 256) : Go.bits .xor .i64 (a : Int) (b : Int) = ((a ^^^ b : Nat) : Int) := by
  have hx : a ^^^ b < 2 ^ 8 := Nat.xor_lt_two_pow (by omega) (by omega)
  show IntKind.i64.wrap ((BitVec.ofInt 64 (a : Int) ^^^ BitVec.ofInt 64 (b : Int)).toNat : Int) = _
  rw [BitVec.toNat_xor, ofInt_i64 a (by omega), ofInt_i64 b (by omega), wrapi64 _ (by omega) (by omega)]
theorem xor_i64 (a b : Int) (h1 : 0 ≤ a) (h2 : a < 256) (h3 : 0 ≤ b) (h4 : b < 256) : Go.bits .xor .i64 a b = ((a.toNat ^^^ b.toNat : Nat) : Int) := by
  obtain ⟨A, rfl⟩ := Int.eq_ofNat_of_zero_le h1
  obtain ⟨B, rfl⟩ := Int.eq_ofNat_of_zero_le h3
  simpa using xor_nat A B (by omega) (by omega)
theorem and255 (a : Int) (h1 : 0 ≤ a) (h2 : a < 512) : Go.bits .and .i64 a 255 = a % 256 := by
  have h := bits_mask .i64 9 (by decide) (fun n h0 h1 => wrapi64 n h0 (by omega)) 8 (by decide) a h1 (by omega)
  simpa using h
/-- A number read from bytes: where it stands k bytes in, x read so far. -/
def gnum : List Int → Nat → Int → Option (Int × Nat)
  | [], _, _ => none
  | c :: s, k, x => if k = 9 then none else if c < 128 then (if c = 0 ∧ 0 < k then none else some (x + c % 128 * 128 ^ k, k + 1)) else gnum s (k + 1) (x + c % 128 * 128 ^ k)
def gtup (a : Int) : Option (Int × Nat) → Int × Int × Bool
  | none => (0, 0, false)
  | some (x, n) => (x, a + n, true)
theorem pow_le (k : Nat) (h : k ≤ 8) : (1 : Int) ≤ 128 ^ k ∧ (128 : Int) ^ k ≤ 72057594037927936 := by
  have h1 : (128 : Nat) ^ k ≤ 128 ^ 8 := Nat.pow_le_pow_right (by omega) h
  have h2 : (0 : Int) < 128 ^ k := Int.pow_pos (by omega)
  have h3 : ((128 ^ k : Nat) : Int) = (128 : Int) ^ k := by simp
  refine ⟨by omega, ?_⟩
  rw [← h3]
  have : (128 : Nat) ^ 8 = 72057594037927936 := by decide
  omega
theorem mul_pow (c : Int) (k : Nat) (h : k ≤ 8) (h0 : 0 ≤ c) (h1 : c < 128) : 0 ≤ c * 128 ^ k ∧ c * 128 ^ k ≤ 127 * 128 ^ k := by
  obtain ⟨hp, _⟩ := pow_le k h
  exact ⟨Int.mul_nonneg h0 (by omega), Int.mul_le_mul_of_nonneg_right (by omega) (by omega)⟩
theorem or_comm' (k : IntKind) (a b : Int) : Go.bits .or k a b = Go.bits .or k b a := by
  show k.wrap ((BitVec.ofInt _ a ||| BitVec.ofInt _ b).toNat : Int) = k.wrap ((BitVec.ofInt _ b ||| BitVec.ofInt _ a).toNat : Int)
  rw [BitVec.or_comm]
theorem and127 (c : Int) (h0 : 0 ≤ c) (h1 : c ≤ 255) : Go.bits .and .u8 c 127 = c % 128 := by
  have h := bits_mask .u8 8 (by decide) wraps_u8 7 (by decide) c h0 (by omega)
  simpa using h
theorem two_pow_7 (i : Nat) : (2 : Int) ^ (7 * i) = 128 ^ i := by rw [Int.pow_mul]; rfl
theorem or_shl (x c : Int) (i : Nat) (hi : i ≤ 8) (hx0 : 0 ≤ x) (hx1 : x < 128 ^ i) (h0 : 0 ≤ c) (h1 : c ≤ 255) :
    Go.bits .or .i64 x (shl .i64 (wrap64 (Go.bits .and .u8 c 127)) (7 * (i : Int))) = x + c % 128 * 128 ^ i := by
  obtain ⟨p0, p1⟩ := pow_le i hi
  have hm := mul_pow (c % 128) i hi (by omega) (by omega)
  rw [and127 c h0 h1, w64 (by omega) (by omega)]
  have es : shl .i64 (c % 128) (7 * (i : Int)) = c % 128 * 128 ^ i := by
    unfold shl
    rw [show (7 * (i : Int)).toNat = 7 * i by omega, show min (7 * i) (IntKind.bits .i64) = 7 * i from Nat.min_eq_left (by show 7 * i ≤ 64; omega), two_pow_7, wrapi64 _ (by omega) (by omega)]
  rw [es, or_comm', bits_join .i64 63 (by decide) (fun n h0 h1 => wrapi64 n h0 (by omega)) (7 * i) (c % 128 * 128 ^ i) x hm.1 (by rw [two_pow_7]; exact Int.mul_emod_left _ _) (by omega) hx0 (by rw [two_pow_7]; exact hx1) (by omega), Int.add_comm]
theorem next_lt (x c : Int) (i : Nat) (hx1 : x < 128 ^ i) : x + c % 128 * 128 ^ i < 128 ^ (i + 1) := by
  have h2 : (c % 128) * 128 ^ i ≤ 127 * 128 ^ i := Int.mul_le_mul_of_nonneg_right (by omega) (by have : (0 : Int) < 128 ^ i := Int.pow_pos (by omega); omega)
  rw [Int.pow_succ]
  omega
theorem iGetNum_l0 (s : List Int) (hu : U8s s) (a : Int) (ha0 : 0 ≤ a) (ha1 : a ≤ 4611686018427387904) (hl : s.length ≤ 4611686018427387904) (d : Nat) : ∀ (i : Nat) (x : Int), i + d = s.length → i ≤ 9 → 0 ≤ x → x < 128 ^ i →
    Ev (fun k => impl_GetNum.l0 k a x s (s.length : Int) (i : Int)) (gtup a (gnum (s.drop i) i x)) := by
  induction d with
  | zero =>
    intro i x hi _ _ _
    refine Ev.step (fun k => by simp only [impl_GetNum.l0]; rfl) ?_
    simp only [show ¬ ((i : Int) < (s.length : Int)) by omega, if_false]
    rw [List.drop_eq_nil_of_le (by omega)]
    exact Ev.now _
  | succ d ih =>
    intro i x hi h9 hx0 hx1
    refine Ev.step (fun k => by simp only [impl_GetNum.l0]; rfl) ?_
    simp only [show (i : Int) < (s.length : Int) by omega, show (0 : Int) ≤ (i : Int) by omega, if_true]
    rw [List.drop_eq_getElem_cons (show i < s.length by omega), gnum]
    have hr : rd s (i : Int) = s[i] := rd_nat s i (by omega)
    have hb := u8s_rd hu (i : Int)
    by_cases c9 : i = 9
    · simp only [show (i : Int) = 9 by omega, c9, if_true]
      exact Ev.now _
    · simp only [show ¬ ((i : Int) = 9) by omega, c9, if_false]
      rw [w64 (x := 7 * (i : Int)) (by omega) (by omega)]
      simp only [show (0 : Int) ≤ 7 * (i : Int) by omega, if_true]
      rw [or_shl x (rd s i) i (by omega) hx0 hx1 hb.1 hb.2]
      rw [hr] at hb ⊢
      have hm := mul_pow (s[i] % 128) i (by omega) (by omega) (by omega)
      by_cases c1 : s[i] < 128
      · simp only [c1, if_true]
        have ew : wrap64 (wrap64 (a + (i : Int)) + 1) = a + ((i + 1 : Nat) : Int) := by rw [w64 (x := a + (i : Int)) (by omega) (by omega), w64 (by omega) (by omega)]; omega
        rw [ew]
        by_cases c2 : s[i] = 0
        · by_cases c3 : 0 < i
          · simp only [c2, show (i : Int) > 0 by omega, c3, and_self, if_true]
            exact Ev.now _
          · simp only [c2, show ¬ ((i : Int) > 0) by omega, c3, and_false, if_true, if_false]
            exact Ev.now _
        · simp only [c2, false_and, if_false]
          exact Ev.now _
      · simp only [c1, if_false]
        rw [w64 (x := (i : Int) + 1) (by omega) (by omega)]
        exact ih (i + 1) _ (by omega) (by omega) (by omega) (next_lt x _ i hx1)
/-- What GetNum tells. -/
def gres (l : List Int) (a : Int) : Int × Int × Bool := if 0 ≤ a ∧ a < l.length then gtup a (gnum (l.drop a.toNat) 0 0) else (0, 0, false)
theorem iGetNum_ev (l : List Int) (hu : U8s l) (a : Int) (hl : l.length ≤ 4611686018427387904) : Ev (fun k => impl_GetNum.f k l a) (gres l a) := by
  unfold impl_GetNum.f gres
  rw [w64 (x := (l.length : Int) - 1) (by omega) (by omega)]
  simp only [in_eq, Option.bind_some, decide_eq_true_eq]
  by_cases c : 0 ≤ a ∧ a < l.length
  · simp only [show 0 ≤ a ∧ a ≤ (l.length : Int) - 1 by omega, c, show 0 ≤ a from c.1, show a ≤ (l.length : Int) by omega, and_self, if_true]
    have hs : U8s (l.drop a.toNat) := fun x hx => hu x (List.mem_of_mem_drop hx)
    have := iGetNum_l0 (l.drop a.toNat) hs a c.1 (by omega) (by rw [List.length_drop]; omega) (l.drop a.toNat).length 0 0 (by omega) (by omega) (by omega) (by simp)
    simpa using this
  · rw [if_neg c]
    simp only [show ¬ (0 ≤ a ∧ a ≤ (l.length : Int) - 1) by omega, if_false]
    exact Ev.now _
theorem sGetNum_l0 (l : List Int) (hu : U8s l) (a : Nat) (hl : l.length ≤ 4611686018427387904) (ha : a < l.length) (d : Nat) : ∀ (i : Nat) (x u : Int), i + d = l.length - a → i ≤ 9 → 0 ≤ x → x < 128 ^ i → (i ≤ 8 → u = 128 ^ i) →
    Ev (fun k => spec_GetNum.l0 k l (a : Int) x u (i : Int)) (gtup a (gnum (l.drop (a + i)) i x)) := by
  induction d with
  | zero =>
    intro i x u hi h9 _ _ _
    refine Ev.step (fun k => by simp only [spec_GetNum.l0]; rfl) ?_
    rw [w64 (x := (a : Int) + (i : Int)) (by omega) (by omega), List.drop_eq_nil_of_le (by omega)]
    by_cases c9 : (i : Int) < 9
    · simp only [c9, show decide ((a : Int) + (i : Int) < (l.length : Int)) = false from decide_eq_false (by omega), if_true]
      refine Ev.step (fun k => by simp only [spec_GetNum.j2]; rfl) ?_
      simp only [Bool.false_eq_true, if_false]
      exact Ev.now _
    · simp only [c9, if_false]
      refine Ev.step (fun k => by simp only [spec_GetNum.j2]; rfl) ?_
      simp only [Bool.false_eq_true, if_false]
      exact Ev.now _
  | succ d ih =>
    intro i x u hi h9 hx0 hx1 hu1
    refine Ev.step (fun k => by simp only [spec_GetNum.l0]; rfl) ?_
    rw [w64 (x := (a : Int) + (i : Int)) (by omega) (by omega)]
    have hr : rd l ((a : Int) + (i : Int)) = l[a + i]'(by omega) := by
      have := rd_nat l (a + i) (by omega)
      rwa [Int.natCast_add] at this
    rw [List.drop_eq_getElem_cons (show a + i < l.length by omega), gnum, ← hr]
    clear hr
    have hb := u8s_rd hu ((a : Int) + (i : Int))
    obtain ⟨v, hv⟩ : ∃ v, rd l ((a : Int) + (i : Int)) = v := ⟨_, rfl⟩
    rw [hv] at hb ⊢
    by_cases c9 : i = 9
    · simp only [show ¬ ((i : Int) < 9) by omega, c9, if_true, if_false]
      refine Ev.step (fun k => by simp only [spec_GetNum.j2]; rfl) ?_
      simp only [Bool.false_eq_true, if_false]
      exact Ev.now _
    · simp only [show (i : Int) < 9 by omega, show decide ((a : Int) + (i : Int) < (l.length : Int)) = true from decide_eq_true (by omega), if_true]
      refine Ev.step (fun k => by simp only [spec_GetNum.j2]; rfl) ?_
      rw [w64 (x := (a : Int) + (i : Int)) (by omega) (by omega)]
      simp only [show (0 : Int) ≤ (a : Int) + (i : Int) by omega, show (a : Int) + (i : Int) < (l.length : Int) by omega, c9, if_true, if_false]
      have hu' := hu1 (by omega)
      subst hu'
      rw [hv, w64 (x := v) (by omega) (by omega)]
      have hm := mul_pow (v % 128) i (by omega) (by omega) (by omega)
      obtain ⟨p0, p1⟩ := pow_le i (by omega)
      rw [Int.tmod_eq_emod_of_nonneg (by omega), w64 (x := v % 128 * 128 ^ i) (by omega) (by omega), w64 (x := x + v % 128 * 128 ^ i) (by omega) (by omega)]
      by_cases c1 : v < 128
      · simp only [c1, if_true]
        have ew : wrap64 ((a : Int) + (i : Int) + 1) = (a : Int) + ((i + 1 : Nat) : Int) := by rw [w64 (by omega) (by omega)]; omega
        rw [ew]
        by_cases c2 : v = 0
        · by_cases c3 : 0 < i
          · simp only [c2, show (i : Int) > 0 by omega, c3, and_self, if_true]
            exact Ev.now _
          · simp only [c2, show ¬ ((i : Int) > 0) by omega, c3, and_false, if_true, if_false]
            exact Ev.now _
        · simp only [c2, false_and, if_false]
          exact Ev.now _
      · simp only [c1, if_false]
        rw [w64 (x := (i : Int) + 1) (by omega) (by omega)]
        exact ih (i + 1) _ _ (by omega) (by omega) (by omega) (next_lt x _ i hx1) (fun h8 => by
          obtain ⟨q0, q1⟩ := pow_le (i + 1) h8
          rw [Int.pow_succ] at q0 q1 ⊢
          exact w64 (by omega) (by omega))
theorem sGetNum_ev (l : List Int) (hu : U8s l) (a : Int) (hl : l.length ≤ 4611686018427387904) : Ev (fun k => spec_GetNum.f k l a) (if 0 ≤ a ∧ a < l.length then gtup a (gnum (l.drop a.toNat) 0 0) else (0, 0, false)) := by
  unfold spec_GetNum.f
  by_cases c0 : a < 0
  · rw [if_neg (show ¬ (0 ≤ a ∧ a < (l.length : Int)) by omega)]
    simp only [c0, if_true]
    refine Ev.step (fun k => by simp only [spec_GetNum.j0]; rfl) ?_
    simp only [if_true]
    exact Ev.now _
  · simp only [c0, if_false]
    by_cases c1 : a ≥ (l.length : Int)
    · rw [if_neg (show ¬ (0 ≤ a ∧ a < (l.length : Int)) by omega)]
      simp only [show decide (a ≥ (l.length : Int)) = true from decide_eq_true c1]
      refine Ev.step (fun k => by simp only [spec_GetNum.j0]; rfl) ?_
      simp only [if_true]
      exact Ev.now _
    · rw [if_pos (show 0 ≤ a ∧ a < (l.length : Int) by omega)]
      simp only [show decide (a ≥ (l.length : Int)) = false from decide_eq_false c1]
      refine Ev.step (fun k => by simp only [spec_GetNum.j0]; rfl) ?_
      simp only [Bool.false_eq_true, if_false]
      obtain ⟨b, rfl⟩ := Int.eq_ofNat_of_zero_le (show 0 ≤ a by omega)
      have := sGetNum_l0 l hu b hl (by omega) (l.length - b) 0 0 1 (by omega) (by omega) (by omega) (by simp) (fun _ => by simp)
      simpa using this
theorem FnExactGetNum (l0 : List Int) (a1 : Int) (hu : ∀ x ∈ l0, (Lit.int .u8 x).wf = true) (_hm : l0.length ≤ 9223372036854775807) (_ha : (Lit.int .i64 a1).wf = true) : ∃ k, laws_FnExactGetNum.f k l0 a1 = some true := by
  apply Ev.rounds
  unfold laws_FnExactGetNum.f
  by_cases h : (l0.length : Int) > 1048576
  · simp only [h, if_true]
    exact Ev.now true
  · simp only [h, if_false]
    refine Ev.bind (toByteS_ev l0 (by omega)) ?_
    refine Ev.bind (sGetNum_ev l0 hu a1 (by omega)) ?_
    refine Ev.bind (toByteS_ev l0 (by omega)) ?_
    refine Ev.bind (iGetNum_ev l0 hu a1 (by omega)) ?_
    unfold gres
    simp only [if_true, bne_self_eq_false]
    refine Ev.step (fun k => by simp only [laws_FnExactGetNum.j0]; rfl) ?_
    simp only [Bool.false_eq_true, if_false]
    refine Ev.bind (toByteS_ev l0 (by omega)) ?_
    refine Ev.bind (eqByteS_ev l0 (by omega)) ?_
    simp only [if_true]
    exact Ev.now true

end Go.Proofs.Ytlijhbkmppphmaa.Pure
