/- The plain half of FnNums4: what the printed functions compute, over numbers and lists alone. No condition. -/
import Derived.Test.YtlijhbkmppphmaaXFnNums4x
import Derived.OpenShut
namespace Go.Proofs.Ytlijhbkmppphmaa.Pure
open Go.RowKit Go.Proofs.Ytlijhbkmppphmaa.XFnNums4 Go.Proofs.YtlijhbkmppphmaaW.PrintWords Go.Proofs.YtlijhbkmppphmaaW.PrintLast Go.Proofs.YtlijhbkmppphmaaW.PrintMore
set_option linter.unusedVariables false
set_option linter.unusedSimpArgs false
theorem wf64 {x : Int} (h : (Lit.int .i64 x).wf = true) : -9223372036854775808 ≤ x ∧ x ≤ 9223372036854775807 := by
  simp [Lit.wf, IntKind.min, IntKind.max, IntKind.signed, IntKind.bits] at h
  omega
theorem w64 {x : Int} (h1 : -9223372036854775808 ≤ x) (h2 : x ≤ 9223372036854775807) : wrap64 x = x := by
  unfold wrap64
  omega
theorem in_eq (a b c : Int) : impl_in.f a b c = some (decide (b ≤ a ∧ a ≤ c)) := by
  unfold impl_in.f
  by_cases h : b ≤ a <;> simp [h]
/-- All of a list are bytes. -/
def U8s (l : List Int) : Prop := ∀ x ∈ l, (Lit.int .u8 x).wf = true
theorem u8s_rd {l : List Int} (h : U8s l) (i : Int) : 0 ≤ rd l i ∧ rd l i ≤ 255 := by
  unfold rd
  rw [List.getD_eq_getElem?_getD]
  rcases Nat.lt_or_ge i.toNat l.length with hi | hi
  · rw [List.getElem?_eq_getElem hi]
    exact Go.bounds_u8 (h _ (List.getElem_mem hi))
  · rw [List.getElem?_eq_none hi]
    decide
theorem rd_nat (l : List Int) (i : Nat) (hi : i < l.length) : rd l (i : Int) = l[i] := by
  unfold rd
  rw [List.getD_eq_getElem?_getD]
  simp [List.getElem?_eq_getElem hi]
theorem wrapi64 (n : Int) (h0 : 0 ≤ n) (h1 : n < 9223372036854775808) : IntKind.i64.wrap n = n := by
  rw [IntKind.wrap_i64]
  omega
theorem ofInt_i64 (a : Nat) (ha : a < 18446744073709551616) : (BitVec.ofInt 64 (a : Int)).toNat = a := by
  rw [BitVec.ofInt_natCast, BitVec.toNat_ofNat]
  exact Nat.mod_eq_of_lt ha
theorem xor_nat (a b : Nat) (ha : a < 256) (hb : b < 256) : Go.bits .xor .i64 (a : Int) (b : Int) = ((a ^^^ b : Nat) : Int) := by
  have hx : a ^^^ b < 2 ^ 8 := Nat.xor_lt_two_pow (by omega) (by omega)
  show IntKind.i64.wrap ((BitVec.ofInt 64 (a : Int) ^^^ BitVec.ofInt 64 (b : Int)).toNat : Int) = _
  rw [BitVec.toNat_xor, ofInt_i64 a (by omega), ofInt_i64 b (by omega), wrapi64 _ (by omega) (by omega)]
theorem xor_i64 (a b : Int) (h1 : 0 ≤ a) (h2 : a < 256) (h3 : 0 ≤ b) (h4 : b < 256) : Go.bits .xor .i64 a b = ((a.toNat ^^^ b.toNat : Nat) : Int) := by
  obtain ⟨A, rfl⟩ := Int.eq_ofNat_of_zero_le h1
  obtain ⟨B, rfl⟩ := Int.eq_ofNat_of_zero_le h3
  simpa using xor_nat A B (by omega) (by omega)
theorem and255 (a : Int) (h1 : 0 ≤ a) (h2 : a < 512) : Go.bits .and .i64 a 255 = a % 256 := by
  have h := bits_mask .i64 9 (by decide) (fun n h0 h1 => wrapi64 n h0 (by omega)) 8 (by decide) a h1 (by omega)
  simpa using h
/-- The number form. -/
def numL (x : Nat) : List Int := if h : x < 128 then [(x : Int)] else ((x % 128 + 128 : Nat) : Int) :: numL (x / 128)
termination_by x
decreasing_by omega
theorem numL_small (x : Nat) (h : x < 128) : numL x = [(x : Int)] := by rw [numL, dif_pos h]
theorem numL_big (x : Nat) (h : ¬ x < 128) : numL x = ((x % 128 + 128 : Nat) : Int) :: numL (x / 128) := by rw [numL, dif_neg h]
theorem numL_pos (x : Nat) : 0 < (numL x).length := by
  by_cases h : x < 128
  · simp [numL_small x h]
  · simp [numL_big x h]
theorem numL_len (n : Nat) : ∀ x : Nat, x < 128 ^ (n + 1) → (numL x).length ≤ n + 1 := by
  induction n with
  | zero =>
    intro x h
    rw [numL_small x (by simpa using h)]
    simp
  | succ n ih =>
    intro x h
    by_cases c : x < 128
    · simp [numL_small x c]
    · rw [numL_big x c, List.length_cons]
      have h2 : x < 128 * 128 ^ (n + 1) := by rw [Nat.pow_succ] at h; omega
      have : x / 128 < 128 ^ (n + 1) := Nat.div_lt_of_lt_mul h2
      have := ih (x / 128) this
      omega
theorem numL_len9 (x : Nat) (h : x < 9223372036854775808) : (numL x).length ≤ 9 := numL_len 8 x (by simpa using h)
theorem numL_mono (y : Nat) : ∀ x : Nat, x ≤ y → (numL x).length ≤ (numL y).length := by
  induction y using Nat.strongRecOn with
  | _ y ih =>
    intro x h
    by_cases c : x < 128
    · rw [numL_small x c]
      exact numL_pos y
    · rw [numL_big x c, numL_big y (by omega), List.length_cons, List.length_cons]
      have := ih (y / 128) (by omega) (x / 128) (by omega)
      omega
theorem numL_u8 (y : Nat) : ∀ c ∈ numL y, 0 ≤ c ∧ c ≤ 255 := by
  induction y using Nat.strongRecOn with
  | _ y ih =>
    by_cases c : y < 128
    · rw [numL_small y c]
      intro d hd
      rw [List.mem_singleton.1 hd]
      omega
    · rw [numL_big y c]
      intro d hd
      rcases List.mem_cons.1 hd with rfl | hd
      · omega
      · exact ih (y / 128) (by omega) d hd
theorem iPutNum_l0 (y : Nat) : ∀ (acc : List Int), y < 9223372036854775808 → acc.length + (numL y).length < 140737488355328 → Ev (fun k => impl_PutNum.l0 k (y : Int) acc) (acc ++ numL y) := by
  induction y using Nat.strongRecOn with
  | _ y ih =>
    intro acc hy hl
    have hp := numL_pos y
    refine Ev.step (fun k => by simp only [impl_PutNum.l0]; rfl) ?_
    by_cases c : y < 128
    · simp only [show ¬ ((y : Int) ≥ 128) by omega, show acc.length < 140737488355328 by omega, if_true, if_false]
      rw [numL_small y c, show (y : Int) % 256 = y by omega]
      exact Ev.now _
    · simp only [show (y : Int) ≥ 128 by omega, show acc.length < 140737488355328 by omega, if_true]
      rw [numL_big y c] at hl ⊢
      have e1 : wrap64 (Int.tdiv (y : Int) 128) = ((y / 128 : Nat) : Int) := by
        rw [Int.tdiv_eq_ediv_of_nonneg (by omega), w64 (by omega) (by omega)]
        omega
      have e2 : wrap64 (Int.tmod (y : Int) 128 + 128) % 256 = ((y % 128 + 128 : Nat) : Int) := by
        rw [Int.tmod_eq_emod_of_nonneg (by omega), w64 (by omega) (by omega)]
        omega
      rw [e1, e2]
      rw [List.length_cons] at hl
      have := ih (y / 128) (by omega) (acc ++ [((y % 128 + 128 : Nat) : Int)]) (by omega) (by rw [List.length_append, List.length_singleton]; omega)
      rw [List.append_assoc] at this
      exact this
theorem iPutNum_ev (x : Int) (h0 : 0 ≤ x) (h1 : x ≤ 9223372036854775807) : Ev (fun k => impl_PutNum.f k x) (numL x.toNat) := by
  obtain ⟨y, rfl⟩ := Int.eq_ofNat_of_zero_le h0
  unfold impl_PutNum.f
  simp only [show ¬ ((y : Int) < 0) by omega, if_false]
  have h9 := numL_len9 y (by omega)
  have := iPutNum_l0 y [] (by omega) (by rw [List.length_nil]; omega)
  simpa using this
theorem iPutNum_neg (x : Int) (h : x < 0) : Ev (fun k => impl_PutNum.f k x) [] := by
  unfold impl_PutNum.f
  simp only [h, if_true]
  exact Ev.now _
/-- A number read from bytes: where it stands k bytes in, x read so far. -/
def gnum : List Int → Nat → Int → Option (Int × Nat)
  | [], _, _ => none
  | c :: s, k, x => if k = 9 then none else if c < 128 then (if c = 0 ∧ 0 < k then none else some (x + c % 128 * 128 ^ k, k + 1)) else gnum s (k + 1) (x + c % 128 * 128 ^ k)
def gtup (a : Int) : Option (Int × Nat) → Int × Int × Bool
  | none => (0, 0, false)
  | some (x, n) => (x, a + n, true)
theorem pow_le (k : Nat) (h : k ≤ 8) : (1 : Int) ≤ 128 ^ k ∧ (128 : Int) ^ k ≤ 72057594037927936 := by
  have h1 : (128 : Nat) ^ k ≤ 128 ^ 8 := Nat.pow_le_pow_right (by omega) h
  have h2 : (0 : Int) < 128 ^ k := Int.pow_pos (by omega)
  have h3 : ((128 ^ k : Nat) : Int) = (128 : Int) ^ k := by simp
  refine ⟨by omega, ?_⟩
  rw [← h3]
  have : (128 : Nat) ^ 8 = 72057594037927936 := by decide
  omega
theorem mul_pow (c : Int) (k : Nat) (h : k ≤ 8) (h0 : 0 ≤ c) (h1 : c < 128) : 0 ≤ c * 128 ^ k ∧ c * 128 ^ k ≤ 127 * 128 ^ k := by
  obtain ⟨hp, _⟩ := pow_le k h
  exact ⟨Int.mul_nonneg h0 (by omega), Int.mul_le_mul_of_nonneg_right (by omega) (by omega)⟩
theorem or_comm' (k : IntKind) (a b : Int) : Go.bits .or k a b = Go.bits .or k b a := by
  show k.wrap ((BitVec.ofInt _ a ||| BitVec.ofInt _ b).toNat : Int) = k.wrap ((BitVec.ofInt _ b ||| BitVec.ofInt _ a).toNat : Int)
  rw [BitVec.or_comm]
theorem and127 (c : Int) (h0 : 0 ≤ c) (h1 : c ≤ 255) : Go.bits .and .u8 c 127 = c % 128 := by
  have h := bits_mask .u8 8 (by decide) wraps_u8 7 (by decide) c h0 (by omega)
  simpa using h
theorem two_pow_7 (i : Nat) : (2 : Int) ^ (7 * i) = 128 ^ i := by rw [Int.pow_mul]; rfl
theorem or_shl (x c : Int) (i : Nat) (hi : i ≤ 8) (hx0 : 0 ≤ x) (hx1 : x < 128 ^ i) (h0 : 0 ≤ c) (h1 : c ≤ 255) :
    Go.bits .or .i64 x (shl .i64 (wrap64 (Go.bits .and .u8 c 127)) (7 * (i : Int))) = x + c % 128 * 128 ^ i := by
  obtain ⟨p0, p1⟩ := pow_le i hi
  have hm := mul_pow (c % 128) i hi (by omega) (by omega)
  rw [and127 c h0 h1, w64 (by omega) (by omega)]
  have es : shl .i64 (c % 128) (7 * (i : Int)) = c % 128 * 128 ^ i := by
    unfold shl
    rw [show (7 * (i : Int)).toNat = 7 * i by omega, show min (7 * i) (IntKind.bits .i64) = 7 * i from Nat.min_eq_left (by show 7 * i ≤ 64; omega), two_pow_7, wrapi64 _ (by omega) (by omega)]
  rw [es, or_comm', bits_join .i64 63 (by decide) (fun n h0 h1 => wrapi64 n h0 (by omega)) (7 * i) (c % 128 * 128 ^ i) x hm.1 (by rw [two_pow_7]; exact Int.mul_emod_left _ _) (by omega) hx0 (by rw [two_pow_7]; exact hx1) (by omega), Int.add_comm]
theorem next_lt (x c : Int) (i : Nat) (hx1 : x < 128 ^ i) : x + c % 128 * 128 ^ i < 128 ^ (i + 1) := by
  have h2 : (c % 128) * 128 ^ i ≤ 127 * 128 ^ i := Int.mul_le_mul_of_nonneg_right (by omega) (by have : (0 : Int) < 128 ^ i := Int.pow_pos (by omega); omega)
  rw [Int.pow_succ]
  omega
theorem iGetNum_l0 (s : List Int) (hu : U8s s) (a : Int) (ha0 : 0 ≤ a) (ha1 : a ≤ 4611686018427387904) (hl : s.length ≤ 4611686018427387904) (d : Nat) : ∀ (i : Nat) (x : Int), i + d = s.length → i ≤ 9 → 0 ≤ x → x < 128 ^ i →
    Ev (fun k => impl_GetNum.l0 k a x s (s.length : Int) (i : Int)) (gtup a (gnum (s.drop i) i x)) := by
  induction d with
  | zero =>
    intro i x hi _ _ _
    refine Ev.step (fun k => by simp only [impl_GetNum.l0]; rfl) ?_
    simp only [show ¬ ((i : Int) < (s.length : Int)) by omega, if_false]
    rw [List.drop_eq_nil_of_le (by omega)]
    exact Ev.now _
  | succ d ih =>
    intro i x hi h9 hx0 hx1
    refine Ev.step (fun k => by simp only [impl_GetNum.l0]; rfl) ?_
    simp only [show (i : Int) < (s.length : Int) by omega, show (0 : Int) ≤ (i : Int) by omega, if_true]
    rw [List.drop_eq_getElem_cons (show i < s.length by omega), gnum]
    have hr : rd s (i : Int) = s[i] := rd_nat s i (by omega)
    have hb := u8s_rd hu (i : Int)
    by_cases c9 : i = 9
    · simp only [show (i : Int) = 9 by omega, c9, if_true]
      exact Ev.now _
    · simp only [show ¬ ((i : Int) = 9) by omega, c9, if_false]
      rw [w64 (x := 7 * (i : Int)) (by omega) (by omega)]
      simp only [show (0 : Int) ≤ 7 * (i : Int) by omega, if_true]
      rw [or_shl x (rd s i) i (by omega) hx0 hx1 hb.1 hb.2]
      rw [hr] at hb ⊢
      have hm := mul_pow (s[i] % 128) i (by omega) (by omega) (by omega)
      by_cases c1 : s[i] < 128
      · simp only [c1, if_true]
        have ew : wrap64 (wrap64 (a + (i : Int)) + 1) = a + ((i + 1 : Nat) : Int) := by rw [w64 (x := a + (i : Int)) (by omega) (by omega), w64 (by omega) (by omega)]; omega
        rw [ew]
        by_cases c2 : s[i] = 0
        · by_cases c3 : 0 < i
          · simp only [c2, show (i : Int) > 0 by omega, c3, and_self, if_true]
            exact Ev.now _
          · simp only [c2, show ¬ ((i : Int) > 0) by omega, c3, and_false, if_true, if_false]
            exact Ev.now _
        · simp only [c2, false_and, if_false]
          exact Ev.now _
      · simp only [c1, if_false]
        rw [w64 (x := (i : Int) + 1) (by omega) (by omega)]
        exact ih (i + 1) _ (by omega) (by omega) (by omega) (next_lt x _ i hx1)
/-- What GetNum tells. -/
def gres (l : List Int) (a : Int) : Int × Int × Bool := if 0 ≤ a ∧ a < l.length then gtup a (gnum (l.drop a.toNat) 0 0) else (0, 0, false)
theorem iGetNum_ev (l : List Int) (hu : U8s l) (a : Int) (hl : l.length ≤ 4611686018427387904) : Ev (fun k => impl_GetNum.f k l a) (gres l a) := by
  unfold impl_GetNum.f gres
  rw [w64 (x := (l.length : Int) - 1) (by omega) (by omega)]
  simp only [in_eq, Option.bind_some, decide_eq_true_eq]
  by_cases c : 0 ≤ a ∧ a < l.length
  · simp only [show 0 ≤ a ∧ a ≤ (l.length : Int) - 1 by omega, c, show 0 ≤ a from c.1, show a ≤ (l.length : Int) by omega, and_self, if_true]
    have hs : U8s (l.drop a.toNat) := fun x hx => hu x (List.mem_of_mem_drop hx)
    have := iGetNum_l0 (l.drop a.toNat) hs a c.1 (by omega) (by rw [List.length_drop]; omega) (l.drop a.toNat).length 0 0 (by omega) (by omega) (by omega) (by simp)
    simpa using this
  · rw [if_neg c]
    simp only [show ¬ (0 ≤ a ∧ a ≤ (l.length : Int) - 1) by omega, if_false]
    exact Ev.now _
theorem gnum_numL (y : Nat) : ∀ (k : Nat) (acc : Int) (s : List Int), k + (numL y).length ≤ 9 → (0 < k → 0 < y) → gnum (numL y ++ s) k acc = some (acc + y * 128 ^ k, k + (numL y).length) := by
  induction y using Nat.strongRecOn with
  | _ y ih =>
    intro k acc s hk h0
    by_cases c : y < 128
    · rw [numL_small y c, List.singleton_append, gnum]
      rw [numL_small y c, List.length_singleton] at hk
      rw [if_neg (show ¬ k = 9 by omega), if_pos (show (y : Int) < 128 by omega), if_neg (by omega), show (y : Int) % 128 = y by omega]
      rfl
    · rw [numL_big y c, List.cons_append, gnum]
      rw [numL_big y c, List.length_cons] at hk
      have hp := numL_pos (y / 128)
      rw [if_neg (show ¬ k = 9 by omega), if_neg (show ¬ (((y % 128 + 128 : Nat) : Int) < 128) by omega), ih (y / 128) (by omega) (k + 1) _ s (by omega) (fun _ => by omega), List.length_cons]
      have e : ((y % 128 + 128 : Nat) : Int) % 128 = ((y % 128 : Nat) : Int) := by omega
      have e2 : (y : Int) = ((y % 128 : Nat) : Int) + ((y / 128 : Nat) : Int) * 128 := by omega
      rw [e, Int.pow_succ]
      congr 1
      refine Prod.ext ?_ (by simp only; omega)
      simp only
      rw [Int.add_assoc]
      congr 1
      conv => rhs; rw [e2]
      rw [Int.add_mul, Int.mul_comm (128 ^ k) 128, ← Int.mul_assoc]

/-- A cursor's place. -/
def Cu (b : List Int) (i : Int) : Prop := 0 ≤ i ∧ i ≤ b.length ∧ b.length ≤ 1048576
theorem and255_in (y : Int) : 0 ≤ Go.bits .and .i64 y 255 ∧ Go.bits .and .i64 y 255 ≤ 255 := by
  have e : Go.bits .and .i64 y 255 = IntKind.i64.wrap ((BitVec.ofInt 64 y &&& BitVec.ofInt 64 255).toNat : Int) := rfl
  have h1 : (BitVec.ofInt 64 y &&& BitVec.ofInt 64 255).toNat ≤ 255 := by
    rw [BitVec.toNat_and]
    exact Nat.le_trans Nat.and_le_right (by decide)
  have h2 : IntKind.i64.wrap ((BitVec.ofInt 64 y &&& BitVec.ofInt 64 255).toNat : Int) = ((BitVec.ofInt 64 y &&& BitVec.ofInt 64 255).toNat : Int) := by
    rw [IntKind.wrap_i64]
    omega
  rw [e, h2]
  omega
theorem l1Byte_ok {b : List Int} {i : Int} (h : Int) (hc : Cu b i) : ∃ x i' h', spec_l1Byte.f b i h = some (x, i', h') ∧ (0 ≤ x ∧ x ≤ 255) ∧ Cu b i' := by
  obtain ⟨h0, h1, h2⟩ := hc
  unfold spec_l1Byte.f
  by_cases c : i < (b.length : Int)
  · rw [if_pos c, if_pos h0]
    exact ⟨_, _, _, rfl, and255_in _, by rw [w64 (by omega) (by omega)]; exact ⟨by omega, by omega, h2⟩⟩
  · rw [if_neg c]
    exact ⟨_, _, _, rfl, and255_in _, h0, h1, h2⟩
theorem l1Below_ok {b : List Int} {i : Int} (h n : Int) (hn : n ≤ 9223372036854775807) (hc : Cu b i) : ∃ x i' h', spec_l1Below.f b i h n = some (x, i', h') ∧ 0 ≤ x ∧ (0 < n → x < n) ∧ (n ≤ 0 → x = 0) ∧ x ≤ 4294967295 ∧ Cu b i' := by
  unfold spec_l1Below.f
  by_cases c : n ≤ 0
  · rw [if_pos c]
    exact ⟨_, _, _, rfl, by omega, by omega, fun _ => rfl, by omega, hc⟩
  · rw [if_neg c]
    by_cases c2 : n ≤ 256
    · rw [if_pos c2]
      obtain ⟨x, i', h', e, hx, hc'⟩ := l1Byte_ok h hc
      rw [e]
      simp only [Option.bind_some, if_neg (show ¬ (n = 0) by omega)]
      rw [Int.tmod_eq_emod_of_nonneg hx.1]
      have h1 := Int.emod_nonneg x (show n ≠ 0 by omega)
      have h2 := Int.emod_lt_of_pos x (show 0 < n by omega)
      exact ⟨_, _, _, rfl, h1, fun _ => h2, by omega, by omega, hc'⟩
    · rw [if_neg c2]
      obtain ⟨x, i1, h1, e1, hx, hc1⟩ := l1Byte_ok h hc
      obtain ⟨y, i2, h2, e2, hy, hc2⟩ := l1Byte_ok h1 hc1
      obtain ⟨z, i3, h3, e3, hz, hc3⟩ := l1Byte_ok h2 hc2
      obtain ⟨w, i4, h4, e4, hw, hc4⟩ := l1Byte_ok h3 hc3
      rw [e1]
      simp only [Option.bind_some]
      rw [e2]
      simp only [Option.bind_some]
      rw [e3]
      simp only [Option.bind_some]
      rw [e4]
      simp only [Option.bind_some, if_neg (show ¬ (n = 0) by omega)]
      have ew : wrap64 (wrap64 (wrap64 (wrap64 (x * 16777216) + wrap64 (y * 65536)) + wrap64 (z * 256)) + w) = x * 16777216 + y * 65536 + z * 256 + w := by
        rw [w64 (x := x * 16777216) (by omega) (by omega), w64 (x := y * 65536) (by omega) (by omega), w64 (x := z * 256) (by omega) (by omega), w64 (x := x * 16777216 + y * 65536) (by omega) (by omega), w64 (x := x * 16777216 + y * 65536 + z * 256) (by omega) (by omega), w64 (by omega) (by omega)]
      rw [ew, Int.tmod_eq_emod_of_nonneg (by omega)]
      have g1 := Int.emod_nonneg (x * 16777216 + y * 65536 + z * 256 + w) (show n ≠ 0 by omega)
      have g2 := Int.emod_lt_of_pos (x * 16777216 + y * 65536 + z * 256 + w) (show 0 < n by omega)
      have g3 : (x * 16777216 + y * 65536 + z * 256 + w) % n ≤ x * 16777216 + y * 65536 + z * 256 + w := by
        have q1 := Int.emod_add_mul_ediv (x * 16777216 + y * 65536 + z * 256 + w) n
        have q2 : 0 ≤ n * ((x * 16777216 + y * 65536 + z * 256 + w) / n) := Int.mul_nonneg (by omega) (Int.ediv_nonneg (by omega) (by omega))
        omega
      exact ⟨_, _, _, rfl, g1, fun _ => g2, by omega, by omega, hc4⟩
theorem l1New_l0 (b : List Int) (hl : b.length ≤ 1048576) (d : Nat) : ∀ (i : Nat) (x : Int), i + d = b.length → ∃ h, Ev (fun k => spec_l1New.l0 k b x (i : Int)) (b, 0, h) := by
  induction d with
  | zero =>
    intro i x hi
    refine ⟨x, Ev.step (fun k => by simp only [spec_l1New.l0]; rfl) ?_⟩
    simp only [show ¬ ((i : Int) < (b.length : Int)) by omega, if_false]
    exact Ev.now _
  | succ d ih =>
    intro i x hi
    by_cases c : (i : Int) < 4000
    · obtain ⟨h, hh⟩ := ih (i + 1) (Go.bits .and .i64 (wrap64 ((wrap64 ((wrap64 (x * 131)) + (wrap64 (rd b (i : Int))))) + 7)) 1073741823) (by omega)
      refine ⟨h, Ev.step (fun k => by simp only [spec_l1New.l0]; rfl) ?_⟩
      simp only [show (i : Int) < (b.length : Int) by omega, c, show (0 : Int) ≤ (i : Int) by omega, if_true]
      rw [w64 (x := (i : Int) + 1) (by omega) (by omega)]
      exact hh
    · refine ⟨x, Ev.step (fun k => by simp only [spec_l1New.l0]; rfl) ?_⟩
      simp only [show (i : Int) < (b.length : Int) by omega, c, if_true, if_false]
      exact Ev.now _
theorem l1New_ev (b : List Int) (hl : b.length ≤ 1048576) : ∃ h, Ev (fun k => spec_l1New.f k b) (b, 0, h) := by
  unfold spec_l1New.f
  exact l1New_l0 b hl b.length 0 _ (by omega)
theorem cu0 {b : List Int} (hl : b.length ≤ 1048576) : Cu b 0 := ⟨by omega, by omega, hl⟩
theorem l1PickInt_ok {b : List Int} {i : Int} (h : Int) (l : List Int) (hl0 : 0 < l.length) (hl1 : l.length ≤ 256) (hc : Cu b i) : ∃ x i' h', spec_l1PickInt.f b i h l = some (x, i', h') ∧ x ∈ l ∧ Cu b i' := by
  unfold spec_l1PickInt.f
  obtain ⟨x, i', h', e, hx0, hx1, _, _, hc'⟩ := l1Below_ok h (l.length : Int) (by omega) hc
  rw [e]
  have := hx1 (by omega)
  simp only [Option.bind_some, if_pos hx0, if_pos this]
  refine ⟨_, _, _, rfl, ?_, hc'⟩
  unfold rd
  rw [List.getD_eq_getElem?_getD, List.getElem?_eq_getElem (by omega)]
  exact List.getElem_mem _
theorem l1DrawTime_ok {b : List Int} {i : Int} (h : Int) (hc : Cu b i) : ∃ x i' h', spec_l1DrawTime.f b i h = some (x, i', h') ∧ (-1000000000000 ≤ x ∧ x ≤ 1000000000000) ∧ Cu b i' := by
  unfold spec_l1DrawTime.f
  obtain ⟨x, i', h', e, hx0, hx1, _, _, hc'⟩ := l1Below_ok h 12 (by omega) hc
  rw [e]
  simp only [Option.bind_some]
  by_cases c0 : x = 0
  · rw [if_pos c0]
    obtain ⟨y, i2, h2, e2, hy, hc2⟩ := l1PickInt_ok h' [(-1000000000000), 1000000000000, 999999999999, (-999999999999), 0] (by simp) (by simp) hc'
    rw [e2]
    refine ⟨_, _, _, rfl, ?_, hc2⟩
    simp at hy
    omega
  · rw [if_neg c0]
    by_cases c1 : x = 1
    · rw [if_pos c1]
      obtain ⟨y, i2, h2, e2, hy0, hy1, _, _, hc2⟩ := l1Below_ok h' 1000000000 (by omega) hc'
      rw [e2]
      simp only [Option.bind_some]
      obtain ⟨z, i3, h3, e3, hz, hc3⟩ := l1PickInt_ok h2 [1, (-1), 900] (by simp) (by simp) hc2
      rw [e3]
      refine ⟨_, _, _, rfl, ?_, hc3⟩
      have := hy1 (by omega)
      simp at hz
      rcases hz with rfl | rfl | rfl <;> (rw [w64 (by omega) (by omega)]; omega)
    · rw [if_neg c1]
      obtain ⟨y, i2, h2, e2, hy0, hy1, _, _, hc2⟩ := l1Below_ok h' 120 (by omega) hc'
      rw [e2]
      have := hy1 (by omega)
      refine ⟨_, _, _, rfl, ?_, hc2⟩
      rw [w64 (by omega) (by omega)]
      omega

theorem DrawPutNum_ev (l : List Int) (hl : l.length ≤ 1048576) : ∃ x, Ev (fun k => spec_DrawPutNum.f k l) x ∧ -1 ≤ x ∧ x ≤ 9223372036854775807 := by
  obtain ⟨h, hn⟩ := l1New_ev l hl
  obtain ⟨a, i1, h1, e1, a0, a1, _, _, c1⟩ := l1Below_ok h 1000000 (by omega) (cu0 hl)
  obtain ⟨b, i2, h2, e2, b0, b1, _, _, c2⟩ := l1Below_ok h1 300 (by omega) c1
  obtain ⟨x, i3, h3, e3, hx, c3⟩ := l1PickInt_ok h2 [0, 1, 127, 128, 255, 16383, 16384, 2097151, 2097152, (-1), 9223372036854775807, 72057594037927935, a, b] (by simp) (by simp) c2
  refine ⟨x, ?_, ?_⟩
  · unfold spec_DrawPutNum.f
    refine Ev.bind hn ?_
    unfold spec_l4DrawNum.f
    simp only [e1, Option.bind_some, e2, e3]
    exact Ev.now _
  · have := a1 (by omega)
    have := b1 (by omega)
    simp at hx
    omega
theorem DrawFold_ev (l : List Int) (hl : l.length ≤ 1048576) : ∃ x, Ev (fun k => spec_DrawFold.f k l) x ∧ -1000000000001 ≤ x ∧ x ≤ 1000000000001 := by
  obtain ⟨h, hn⟩ := l1New_ev l hl
  obtain ⟨a, i1, h1, e1, a0, c1⟩ := l1DrawTime_ok h (cu0 hl)
  obtain ⟨x, i3, h3, e3, hx, c3⟩ := l1PickInt_ok h1 [a, 1000000000000, 1000000000001, (-1000000000000), (-1000000000001), (-1), 0] (by simp) (by simp) c1
  refine ⟨x, ?_, ?_⟩
  · unfold spec_DrawFold.f
    refine Ev.bind hn ?_
    simp only [e1, Option.bind_some, e3]
    exact Ev.now _
  · simp at hx
    omega
theorem at_ok (l : List Int) (i : Int) (h0 : 0 ≤ i) : ∃ c, laws_at.f l i = some c := by
  unfold laws_at.f
  by_cases h : i < (l.length : Int)
  · rw [if_pos h, if_pos h0]
    exact ⟨_, rfl⟩
  · rw [if_neg h]
    exact ⟨_, rfl⟩
theorem fold_in (t : Int) (h : -1000000000000 ≤ t ∧ t ≤ 1000000000000) : ∃ v, impl_Fold.f t = some v ∧ 0 ≤ v ∧ impl_Unfold.f v = some t := by
  unfold impl_Fold.f
  simp only [in_eq, Option.bind_some, h, and_self, decide_true, if_true]
  by_cases c : t < 0
  · rw [if_pos c, w64 (x := -2 * t) (by omega) (by omega), w64 (by omega) (by omega)]
    refine ⟨_, rfl, by omega, ?_⟩
    unfold impl_Unfold.f
    simp only [in_eq, Option.bind_some, decide_eq_true_eq]
    rw [if_pos (by omega), Int.tmod_eq_emod_of_nonneg (by omega), if_pos (by omega), w64 (x := -2 * t - 1 + 1) (by omega) (by omega), w64 (x := -(-2 * t - 1 + 1)) (by omega) (by omega)]
    have : Int.tdiv (-(-2 * t - 1 + 1)) 2 = t := by
      rw [show -(-2 * t - 1 + 1) = -((-t) * 2) by omega, Int.neg_tdiv, Int.mul_tdiv_cancel _ (by omega)]
      omega
    rw [this, w64 (by omega) (by omega)]
  · rw [if_neg c, w64 (by omega) (by omega)]
    refine ⟨_, rfl, by omega, ?_⟩
    unfold impl_Unfold.f
    simp only [in_eq, Option.bind_some, decide_eq_true_eq]
    rw [if_pos (by omega), Int.tmod_eq_emod_of_nonneg (by omega), if_neg (by omega)]
    have : Int.tdiv (2 * t) 2 = t := by rw [Int.mul_comm, Int.mul_tdiv_cancel _ (by omega)]
    rw [this, w64 (by omega) (by omega)]
theorem fold_out (t : Int) (h : ¬ (-1000000000000 ≤ t ∧ t ≤ 1000000000000)) : impl_Fold.f t = some 0 := by
  unfold impl_Fold.f
  simp only [in_eq, Option.bind_some, decide_eq_true_eq]
  rw [if_neg h]
theorem Nums4_j0 (l : List Int) (hl : l.length ≤ 1048576) : Ev (fun k => laws_FnNums4.j0 k l false) true := by
  refine Ev.step (fun k => by simp only [laws_FnNums4.j0]; rfl) ?_
  simp only [Bool.false_eq_true, if_false]
  obtain ⟨t, ht, h0, h1⟩ := DrawFold_ev l hl
  refine Ev.bind ht ?_
  by_cases c : t > 1000000000000
  · simp only [c, if_true]
    refine Ev.step (fun k => by simp only [laws_FnNums4.j1]; rfl) ?_
    simp only [if_true, fold_out t (by omega), Option.bind_some]
    exact Ev.now _
  · simp only [c, if_false]
    by_cases c2 : t < -1000000000000
    · simp only [decide_eq_true c2]
      refine Ev.step (fun k => by simp only [laws_FnNums4.j1]; rfl) ?_
      simp only [if_true, fold_out t (by omega), Option.bind_some]
      exact Ev.now _
    · simp only [decide_eq_false c2]
      refine Ev.step (fun k => by simp only [laws_FnNums4.j1]; rfl) ?_
      obtain ⟨v, e1, hv, e2⟩ := fold_in t (by omega)
      simp only [Bool.false_eq_true, if_false, e1, Option.bind_some, e2, if_true, decide_eq_true (show v ≥ 0 from hv)]
      exact Ev.now _
theorem FnNums4 (l0 : List Int) (hu : ∀ x ∈ l0, (Lit.int .u8 x).wf = true) (_hm : l0.length ≤ 9223372036854775807) : ∃ k, laws_FnNums4.f k l0 = some true := by
  apply Ev.rounds
  unfold laws_FnNums4.f laws_big.f
  simp only [Option.bind_some, decide_eq_true_eq]
  by_cases hb : (l0.length : Int) > 1048576
  · simp only [hb, if_true]
    exact Ev.now true
  · simp only [hb, if_false]
    have hl : l0.length ≤ 1048576 := by omega
    obtain ⟨x, hx, x0, x1⟩ := DrawPutNum_ev l0 hl
    refine Ev.bind hx ?_
    by_cases c : x < 0
    · refine Ev.bind (iPutNum_neg x c) ?_
      simp only [c, if_true]
      exact Ev.now _
    · refine Ev.bind (iPutNum_ev x (by omega) x1) ?_
      obtain ⟨b, eb⟩ := at_ok l0 1 (by omega)
      have h9 := numL_len9 x.toNat (by omega)
      simp only [c, if_false, eb, Option.bind_some, show (numL x.toNat).length < 140737488355328 by omega, if_true]
      have hu8 : U8s (numL x.toNat ++ [b % 256]) := by
        intro y hy
        rcases List.mem_append.1 hy with hy | hy
        · have := numL_u8 x.toNat y hy
          exact WalkArith.wf_u8 this
        · rw [List.mem_singleton.1 hy]
          exact WalkArith.wf_u8 (by omega)
      refine Ev.bind (iGetNum_ev _ hu8 0 (by rw [List.length_append, List.length_singleton]; omega)) ?_
      have hg : gres (numL x.toNat ++ [b % 256]) 0 = (x, ((numL x.toNat).length : Int), true) := by
        unfold gres
        rw [if_pos (by rw [List.length_append, List.length_singleton]; omega)]
        have := gnum_numL x.toNat 0 0 [b % 256] (by omega) (by omega)
        simp only [Int.toNat_zero, List.drop_zero, this, gtup]
        refine Prod.ext ?_ (Prod.ext ?_ rfl)
        · simp
          omega
        · simp
      rw [hg]
      simp only [if_true]
      refine Ev.bind (iPutNum_ev x (by omega) x1) ?_
      simp only [if_true]
      have e3 : wrap64 (Int.tdiv x 3) = ((x.toNat / 3 : Nat) : Int) := by
        rw [Int.tdiv_eq_ediv_of_nonneg (by omega), w64 (by omega) (by omega)]
        omega
      rw [e3]
      refine Ev.bind (iPutNum_ev _ (by omega) (by omega)) ?_
      rw [Int.toNat_natCast]
      have hm := numL_mono x.toNat (x.toNat / 3) (Nat.div_le_self _ _)
      simp only [decide_eq_false (show ¬ (((numL (x.toNat / 3)).length : Int) > ((numL x.toNat).length : Int)) by omega)]
      exact Nums4_j0 l0 hl

end Go.Proofs.Ytlijhbkmppphmaa.Pure
