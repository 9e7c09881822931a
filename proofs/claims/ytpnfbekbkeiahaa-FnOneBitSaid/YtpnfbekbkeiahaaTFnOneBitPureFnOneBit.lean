/- The plain half of FnOneBit: what the printed functions compute, over numbers and lists alone. No condition. -/
import Derived.Test.YtpnfbekbkeiahaaTFnOneBitXFnOneBitx
import Derived.OpenShut
namespace Go.Proofs.Ytpnfbekbkeiahaa.Pure
open Go.RowKit Go.Proofs.Ytpnfbekbkeiahaa.XFnOneBit Go.Proofs.YtpnfbekbkeiahaaW.PrintWords Go.Proofs.YtpnfbekbkeiahaaW.PrintLast Go.Proofs.YtpnfbekbkeiahaaW.PrintMore
set_option linter.unusedVariables false
set_option linter.unusedSimpArgs false
theorem wf64 {x : Int} (h : (Lit.int .i64 x).wf = true) : -9223372036854775808 ≤ x ∧ x ≤ 9223372036854775807 := by
 simp [Lit.wf, IntKind.min, IntKind.max, IntKind.signed, IntKind.bits] at h
 omega
theorem w64 {x : Int} (h1 : -9223372036854775808 ≤ x) (h2 : x ≤ 9223372036854775807) : wrap64 x = x := by
 unfold wrap64
 omega
theorem in_eq (a b c : Int) : impl_in.f a b c = some (decide (b ≤ a ∧ a ≤ c)) := by
 unfold impl_in.f
 by_cases h : b ≤ a <;> simp [h]
theorem l1In_eq (a b c : Int) : spec_l1In.f a b c = some (decide (b ≤ a ∧ a ≤ c)) := by
 unfold spec_l1In.f
 by_cases h : b ≤ a <;> simp [h]
theorem iIvalOk_eq (a b : Int) : impl_IvalOk.f a b = some (decide (-1000000000000 ≤ a ∧ a ≤ b ∧ b ≤ 1000000000000)) := by
 unfold impl_IvalOk.f
 by_cases h : -1000000000000 ≤ a <;> by_cases h2 : a ≤ b <;> simp [h, h2]
theorem sIvalOk_eq (a b : Int) : spec_IvalOk.f a b = some (decide (-1000000000000 ≤ a ∧ a ≤ b ∧ b ≤ 1000000000000)) := by
 unfold spec_IvalOk.f
 simp only [l1In_eq, Option.bind_some, decide_eq_true_eq]
 by_cases h : a ≤ b
 ·rw [if_pos h]
  by_cases h2 : -1000000000000 ≤ a ∧ a ≤ 1000000000000
  ·rw [if_pos h2]
   simp only [Option.some.injEq, decide_eq_decide]
   omega
  ·rw [if_neg h2]
   simp only [Option.some.injEq]
   exact (decide_eq_false (by omega)).symm
 ·rw [if_neg h]
  simp only [Option.some.injEq]
  exact (decide_eq_false (by omega)).symm
theorem l1Min_eq (a b : Int) : spec_l1Min.f a b = some (mn a b) := by
 unfold spec_l1Min.f mn
 by_cases h : a < b
 ·rw [if_pos h, if_neg (by omega)]
 ·rw [if_neg h]
  by_cases h2 : b < a
  ·rw [if_pos h2]
  ·rw [if_neg h2]
   have : a = b := by omega
   rw [this]
/-- All of a list are bytes. -/
def U8s (l : List Int) : Prop := ∀ x ∈ l, (Lit.int .u8 x).wf = true
theorem u8s_rd {l : List Int} (h : U8s l) (i : Int) : 0 ≤ rd l i ∧ rd l i ≤ 255 := by
 unfold rd
 rw [List.getD_eq_getElem?_getD]
 rcases Nat.lt_or_ge i.toNat l.length with hi | hi
 ·rw [List.getElem?_eq_getElem hi]
  exact Go.bounds_u8 (h _ (List.getElem_mem hi))
 ·rw [List.getElem?_eq_none hi]
  decide
theorem rd_nat (l : List Int) (i : Nat) (hi : i < l.length) : rd l (i : Int) = l[i] := by
 unfold rd
 rw [List.getD_eq_getElem?_getD]
 simp [List.getElem?_eq_getElem hi]
theorem wrapi64 (n : Int) (h0 : 0 ≤ n) (h1 : n < 9223372036854775808) : IntKind.i64.wrap n = n := by
 rw [IntKind.wrap_i64]
 omega
theorem ofInt_i64 (a : Nat) (ha : a < 18446744073709551616) : (BitVec.ofInt 64 (a : Int)).toNat = a := by
 rw [BitVec.ofInt_natCast, BitVec.toNat_ofNat]
 exact Nat.mod_eq_of_lt ha
theorem xor_nat (a b : Nat) (ha : a < 256) (hb : b < 256) : Go.bits .xor .i64 (a : Int) (b : Int) = ((a ^^^ b : Nat) : Int) := by
 have hx : a ^^^ b < 2 ^ 8 := Nat.xor_lt_two_pow (by omega) (by omega)
 show IntKind.i64.wrap ((BitVec.ofInt 64 (a : Int) ^^^ BitVec.ofInt 64 (b : Int)).toNat : Int) = _
 rw [BitVec.toNat_xor, ofInt_i64 a (by omega), ofInt_i64 b (by omega), wrapi64 _ (by omega) (by omega)]
theorem xor_i64 (a b : Int) (h1 : 0 ≤ a) (h2 : a < 256) (h3 : 0 ≤ b) (h4 : b < 256) : Go.bits .xor .i64 a b = ((a.toNat ^^^ b.toNat : Nat) : Int) := by
 obtain ⟨A, rfl⟩ := Int.eq_ofNat_of_zero_le h1
 obtain ⟨B, rfl⟩ := Int.eq_ofNat_of_zero_le h3
 simpa using xor_nat A B (by omega) (by omega)
theorem and255 (a : Int) (h1 : 0 ≤ a) (h2 : a < 512) : Go.bits .and .i64 a 255 = a % 256 := by
 have h := bits_mask .i64 9 (by decide) (fun n h0 h1 => wrapi64 n h0 (by omega)) 8 (by decide) a h1 (by omega)
 simpa using h
/-- One bit of the check: numbers below 256. -/
def bit1 (x : Nat) : Nat := if 2 * x > 255 then (2 * x) % 256 ^^^ 7 else 2 * x
def bitn : Nat → Nat → Nat
 | 0, x => x
 | n + 1, x => bitn n (bit1 x)
/-- The check of some bytes, from a state on. -/
def byte8 (x : Nat) (c : Int) : Nat := bitn 8 (x ^^^ c.toNat)
def crc (x : Nat) (l : List Int) : Nat := l.foldl byte8 x
theorem crc_nil (x : Nat) : crc x [] = x := List.foldl_nil
theorem crc_cons (x : Nat) (c : Int) (l : List Int) : crc x (c :: l) = crc (byte8 x c) l := List.foldl_cons ..
theorem bit1_lt (x : Nat) (h : x < 256) : bit1 x < 256 := by
 unfold bit1
 split
 ·exact Nat.xor_lt_two_pow (n := 8) (by omega) (by omega)
 ·omega
theorem bitn_lt (n : Nat) : ∀ x, x < 256 → bitn n x < 256 := by
 induction n with
 | zero => exact fun x h => h
 | succ n ih => exact fun x h => ih _ (bit1_lt x h)
theorem xor_lt (x y : Nat) (h : x < 256) (h' : y < 256) : x ^^^ y < 256 := Nat.xor_lt_two_pow (n := 8) (by omega) (by omega)
theorem crc_lt (l : List Int) (hl : ∀ c ∈ l, 0 ≤ c ∧ c ≤ 255) : ∀ x, x < 256 → crc x l < 256 := by
 induction l with
 | nil => exact fun x h => h
 | cons c l ih =>
  intro x h
  have hc := hl c List.mem_cons_self
  have hb : byte8 x c < 256 := by unfold byte8; exact bitn_lt 8 _ (xor_lt x c.toNat h (by omega))
  rw [crc_cons]
  exact ih (fun d hd => hl d (List.mem_cons_of_mem _ hd)) _ hb
theorem iCheck8_bits (r : Option Int) (l : List Int) (n i : Int) (R : Int) (j : Nat) : ∀ (d x : Nat), x < 256 → j = 8 - d → d ≤ 8 → Ev (fun k => impl_Check8.l0 k (bitn d x) l n (wrap64 (i + 1))) R → Ev (fun k => impl_Check8.l1 k x l n i ((8 - d : Nat) : Int)) R := by
 intro d
 induction d generalizing j with
 | zero =>
  intro x hx _ _ h
  refine Ev.step (fun k => by simp only [impl_Check8.l1]; rfl) ?_
  simpa [bitn] using h
 | succ d ih =>
  intro x hx hj hd h
  refine Ev.step (fun k => by simp only [impl_Check8.l1]; rfl) ?_
  have e8 : ((8 - (d + 1) : Nat) : Int) < 8 := by omega
  simp only [e8, if_true]
  have ew : wrap64 (((8 - (d + 1) : Nat) : Int) + 1) = ((8 - d : Nat) : Int) := by rw [w64 (by omega) (by omega)]; omega
  rw [ew, show wrap64 ((x : Int) * 2) = ((2 * x : Nat) : Int) by rw [w64 (by omega) (by omega)]; omega]
  by_cases c : 2 * x > 255
  ·simp only [show ((2 * x : Nat) : Int) > 255 by omega, if_true]
   rw [and255 _ (by omega) (by omega), show ((2 * x : Nat) : Int) % 256 = ((2 * x % 256 : Nat) : Int) by omega, show (7 : Int) = ((7 : Nat) : Int) from rfl, xor_nat _ _ (by omega) (by omega)]
   have eb : 2 * x % 256 ^^^ 7 = bit1 x := by unfold bit1; rw [if_pos c]
   rw [eb]
   exact ih _ (bit1 x) (bit1_lt x hx) rfl (by omega) h
  ·simp only [show ¬ (((2 * x : Nat) : Int) > 255) by omega, if_false]
   have eb : 2 * x = bit1 x := by unfold bit1; rw [if_neg c]
   rw [eb]
   exact ih _ (bit1 x) (bit1_lt x hx) rfl (by omega) h
theorem iCheck8_l0 (l : List Int) (hu : U8s l) (hl : l.length ≤ 9223372036854775806) (d : Nat) : ∀ (i x : Nat), x < 256 → i + d = l.length → Ev (fun k => impl_Check8.l0 k x l (l.length : Int) i) (crc x (l.drop i)) := by
 induction d with
 | zero =>
  intro i x hx hi
  refine Ev.step (fun k => by simp only [impl_Check8.l0]; rfl) ?_
  simp only [show ¬ ((i : Int) < (l.length : Int)) by omega, if_false]
  rw [List.drop_eq_nil_of_le (by omega), crc_nil]
  exact Ev.now _
 | succ d ih =>
  intro i x hx hi
  refine Ev.step (fun k => by simp only [impl_Check8.l0]; rfl) ?_
  simp only [show (i : Int) < (l.length : Int) by omega, show (0 : Int) ≤ (i : Int) by omega, if_true]
  have hb := u8s_rd hu (i : Int)
  rw [w64 (x := rd l i) (by omega) (by omega), xor_i64 _ _ (by omega) (by omega) hb.1 (by omega), Int.toNat_natCast]
  rw [List.drop_eq_getElem_cons (show i < l.length by omega)]
  have hr : rd l (i : Int) = l[i] := rd_nat l i (by omega)
  have hxx := xor_lt x (rd l i).toNat hx (by omega)
  have h0 := iCheck8_bits none l (l.length : Int) (i : Int) (crc (byte8 x (rd l i)) (l.drop (i + 1))) 0 8 (x ^^^ (rd l i).toNat) hxx rfl (by omega) (by
   rw [w64 (by omega) (by omega)]
   have hb8 : bitn 8 (x ^^^ (rd l i).toNat) = byte8 x (rd l i) := by unfold byte8; rfl
   have hbl := bitn_lt 8 _ hxx
   rw [hb8] at hbl ⊢
   exact ih (i + 1) _ hbl (by omega))
  rw [crc_cons, ← hr]
  exact h0
theorem iCheck8_ev (l : List Int) (hu : U8s l) (hl : l.length ≤ 9223372036854775806) : Ev (fun k => impl_Check8.f k l) (crc 90 l) := by
 unfold impl_Check8.f
 have := iCheck8_l0 l hu hl l.length 0 90 (by omega) (by omega)
 simpa using this
/-- The number form. -/
def numL (x : Nat) : List Int := if h : x < 128 then [(x : Int)] else ((x % 128 + 128 : Nat) : Int) :: numL (x / 128)
termination_by x
decreasing_by omega
theorem numL_small (x : Nat) (h : x < 128) : numL x = [(x : Int)] := by rw [numL, dif_pos h]
theorem numL_big (x : Nat) (h : ¬ x < 128) : numL x = ((x % 128 + 128 : Nat) : Int) :: numL (x / 128) := by rw [numL, dif_neg h]
theorem numL_pos (x : Nat) : 0 < (numL x).length := by
 by_cases h : x < 128
 ·simp [numL_small x h]
 ·simp [numL_big x h]
theorem numL_len (n : Nat) : ∀ x : Nat, x < 128 ^ (n + 1) → (numL x).length ≤ n + 1 := by
 induction n with
 | zero =>
  intro x h
  rw [numL_small x (by simpa using h)]
  simp
 | succ n ih =>
  intro x h
  by_cases c : x < 128
  ·simp [numL_small x c]
  ·rw [numL_big x c, List.length_cons]
   have h2 : x < 128 * 128 ^ (n + 1) := by rw [Nat.pow_succ] at h; omega
   have : x / 128 < 128 ^ (n + 1) := Nat.div_lt_of_lt_mul h2
   have := ih (x / 128) this
   omega
theorem numL_len9 (x : Nat) (h : x < 9223372036854775808) : (numL x).length ≤ 9 := numL_len 8 x (by simpa using h)
theorem numL_mono (y : Nat) : ∀ x : Nat, x ≤ y → (numL x).length ≤ (numL y).length := by
 induction y using Nat.strongRecOn with
 | _ y ih =>
  intro x h
  by_cases c : x < 128
  ·rw [numL_small x c]
   exact numL_pos y
  ·rw [numL_big x c, numL_big y (by omega), List.length_cons, List.length_cons]
   have := ih (y / 128) (by omega) (x / 128) (by omega)
   omega
theorem numL_u8 (y : Nat) : ∀ c ∈ numL y, 0 ≤ c ∧ c ≤ 255 := by
 induction y using Nat.strongRecOn with
 | _ y ih =>
  by_cases c : y < 128
  ·rw [numL_small y c]
   intro d hd
   rw [List.mem_singleton.1 hd]
   omega
  ·rw [numL_big y c]
   intro d hd
   rcases List.mem_cons.1 hd with rfl | hd
   ·omega
   ·exact ih (y / 128) (by omega) d hd
theorem iPutNum_l0 (y : Nat) : ∀ (acc : List Int), y < 9223372036854775808 → acc.length + (numL y).length < 140737488355328 → Ev (fun k => impl_PutNum.l0 k (y : Int) acc) (acc ++ numL y) := by
 induction y using Nat.strongRecOn with
 | _ y ih =>
  intro acc hy hl
  have hp := numL_pos y
  refine Ev.step (fun k => by simp only [impl_PutNum.l0]; rfl) ?_
  by_cases c : y < 128
  ·simp only [show ¬ ((y : Int) ≥ 128) by omega, show acc.length < 140737488355328 by omega, if_true, if_false]
   rw [numL_small y c, show (y : Int) % 256 = y by omega]
   exact Ev.now _
  ·simp only [show (y : Int) ≥ 128 by omega, show acc.length < 140737488355328 by omega, if_true]
   rw [numL_big y c] at hl ⊢
   have e1 : wrap64 (Int.tdiv (y : Int) 128) = ((y / 128 : Nat) : Int) := by
    rw [Int.tdiv_eq_ediv_of_nonneg (by omega), w64 (by omega) (by omega)]
    omega
   have e2 : wrap64 (Int.tmod (y : Int) 128 + 128) % 256 = ((y % 128 + 128 : Nat) : Int) := by
    rw [Int.tmod_eq_emod_of_nonneg (by omega), w64 (by omega) (by omega)]
    omega
   rw [e1, e2]
   rw [List.length_cons] at hl
   have := ih (y / 128) (by omega) (acc ++ [((y % 128 + 128 : Nat) : Int)]) (by omega) (by rw [List.length_append, List.length_singleton]; omega)
   rw [List.append_assoc] at this
   exact this
theorem iPutNum_ev (x : Int) (h0 : 0 ≤ x) (h1 : x ≤ 9223372036854775807) : Ev (fun k => impl_PutNum.f k x) (numL x.toNat) := by
 obtain ⟨y, rfl⟩ := Int.eq_ofNat_of_zero_le h0
 unfold impl_PutNum.f
 simp only [show ¬ ((y : Int) < 0) by omega, if_false]
 have h9 := numL_len9 y (by omega)
 have := iPutNum_l0 y [] (by omega) (by rw [List.length_nil]; omega)
 simpa using this
theorem iPutNum_neg (x : Int) (h : x < 0) : Ev (fun k => impl_PutNum.f k x) [] := by
 unfold impl_PutNum.f
 simp only [h, if_true]
 exact Ev.now _
/-- A number read from bytes: where it stands k bytes in, x read so far. -/
def gnum : List Int → Nat → Int → Option (Int × Nat)
 | [], _, _ => none
 | c :: s, k, x => if k = 9 then none else if c < 128 then (if c = 0 ∧ 0 < k then none else some (x + c % 128 * 128 ^ k, k + 1)) else gnum s (k + 1) (x + c % 128 * 128 ^ k)
def gtup (a : Int) : Option (Int × Nat) → Int × Int × Bool
 | none => (0, 0, false)
 | some (x, n) => (x, a + n, true)
theorem pow_le (k : Nat) (h : k ≤ 8) : (1 : Int) ≤ 128 ^ k ∧ (128 : Int) ^ k ≤ 72057594037927936 := by
 have h1 : (128 : Nat) ^ k ≤ 128 ^ 8 := Nat.pow_le_pow_right (by omega) h
 have h2 : (0 : Int) < 128 ^ k := Int.pow_pos (by omega)
 have h3 : ((128 ^ k : Nat) : Int) = (128 : Int) ^ k := by simp
 refine ⟨by omega, ?_⟩
 rw [← h3]
 have : (128 : Nat) ^ 8 = 72057594037927936 := by decide
 omega
theorem mul_pow (c : Int) (k : Nat) (h : k ≤ 8) (h0 : 0 ≤ c) (h1 : c < 128) : 0 ≤ c * 128 ^ k ∧ c * 128 ^ k ≤ 127 * 128 ^ k := by
 obtain ⟨hp, _⟩ := pow_le k h
 exact ⟨Int.mul_nonneg h0 (by omega), Int.mul_le_mul_of_nonneg_right (by omega) (by omega)⟩
theorem or_comm' (k : IntKind) (a b : Int) : Go.bits .or k a b = Go.bits .or k b a := by
 show k.wrap ((BitVec.ofInt _ a ||| BitVec.ofInt _ b).toNat : Int) = k.wrap ((BitVec.ofInt _ b ||| BitVec.ofInt _ a).toNat : Int)
 rw [BitVec.or_comm]
theorem and127 (c : Int) (h0 : 0 ≤ c) (h1 : c ≤ 255) : Go.bits .and .u8 c 127 = c % 128 := by
 have h := bits_mask .u8 8 (by decide) wraps_u8 7 (by decide) c h0 (by omega)
 simpa using h
theorem two_pow_7 (i : Nat) : (2 : Int) ^ (7 * i) = 128 ^ i := by rw [Int.pow_mul]; rfl
theorem or_shl (x c : Int) (i : Nat) (hi : i ≤ 8) (hx0 : 0 ≤ x) (hx1 : x < 128 ^ i) (h0 : 0 ≤ c) (h1 : c ≤ 255) :
  Go.bits .or .i64 x (shl .i64 (wrap64 (Go.bits .and .u8 c 127)) (7 * (i : Int))) = x + c % 128 * 128 ^ i := by
 obtain ⟨p0, p1⟩ := pow_le i hi
 have hm := mul_pow (c % 128) i hi (by omega) (by omega)
 rw [and127 c h0 h1, w64 (by omega) (by omega)]
 have es : shl .i64 (c % 128) (7 * (i : Int)) = c % 128 * 128 ^ i := by
  unfold shl
  rw [show (7 * (i : Int)).toNat = 7 * i by omega, show min (7 * i) (IntKind.bits .i64) = 7 * i from Nat.min_eq_left (by show 7 * i ≤ 64; omega), two_pow_7, wrapi64 _ (by omega) (by omega)]
 rw [es, or_comm', bits_join .i64 63 (by decide) (fun n h0 h1 => wrapi64 n h0 (by omega)) (7 * i) (c % 128 * 128 ^ i) x hm.1 (by rw [two_pow_7]; exact Int.mul_emod_left _ _) (by omega) hx0 (by rw [two_pow_7]; exact hx1) (by omega), Int.add_comm]
theorem next_lt (x c : Int) (i : Nat) (hx1 : x < 128 ^ i) : x + c % 128 * 128 ^ i < 128 ^ (i + 1) := by
 have h2 : (c % 128) * 128 ^ i ≤ 127 * 128 ^ i := Int.mul_le_mul_of_nonneg_right (by omega) (by have : (0 : Int) < 128 ^ i := Int.pow_pos (by omega); omega)
 rw [Int.pow_succ]
 omega
theorem iGetNum_l0 (s : List Int) (hu : U8s s) (a : Int) (ha0 : 0 ≤ a) (ha1 : a ≤ 4611686018427387904) (hl : s.length ≤ 4611686018427387904) (d : Nat) : ∀ (i : Nat) (x : Int), i + d = s.length → i ≤ 9 → 0 ≤ x → x < 128 ^ i →
  Ev (fun k => impl_GetNum.l0 k a x s (s.length : Int) (i : Int)) (gtup a (gnum (s.drop i) i x)) := by
 induction d with
 | zero =>
  intro i x hi _ _ _
  refine Ev.step (fun k => by simp only [impl_GetNum.l0]; rfl) ?_
  simp only [show ¬ ((i : Int) < (s.length : Int)) by omega, if_false]
  rw [List.drop_eq_nil_of_le (by omega)]
  exact Ev.now _
 | succ d ih =>
  intro i x hi h9 hx0 hx1
  refine Ev.step (fun k => by simp only [impl_GetNum.l0]; rfl) ?_
  simp only [show (i : Int) < (s.length : Int) by omega, show (0 : Int) ≤ (i : Int) by omega, if_true]
  rw [List.drop_eq_getElem_cons (show i < s.length by omega), gnum]
  have hr : rd s (i : Int) = s[i] := rd_nat s i (by omega)
  have hb := u8s_rd hu (i : Int)
  by_cases c9 : i = 9
  ·simp only [show (i : Int) = 9 by omega, c9, if_true]
   exact Ev.now _
  ·simp only [show ¬ ((i : Int) = 9) by omega, c9, if_false]
   rw [w64 (x := 7 * (i : Int)) (by omega) (by omega)]
   simp only [show (0 : Int) ≤ 7 * (i : Int) by omega, if_true]
   rw [or_shl x (rd s i) i (by omega) hx0 hx1 hb.1 hb.2]
   rw [hr] at hb ⊢
   have hm := mul_pow (s[i] % 128) i (by omega) (by omega) (by omega)
   by_cases c1 : s[i] < 128
   ·simp only [c1, if_true]
    have ew : wrap64 (wrap64 (a + (i : Int)) + 1) = a + ((i + 1 : Nat) : Int) := by rw [w64 (x := a + (i : Int)) (by omega) (by omega), w64 (by omega) (by omega)]; omega
    rw [ew]
    by_cases c2 : s[i] = 0
    ·by_cases c3 : 0 < i
     ·simp only [c2, show (i : Int) > 0 by omega, c3, and_self, if_true]
      exact Ev.now _
     ·simp only [c2, show ¬ ((i : Int) > 0) by omega, c3, and_false, if_true, if_false]
      exact Ev.now _
    ·simp only [c2, false_and, if_false]
     exact Ev.now _
   ·simp only [c1, if_false]
    rw [w64 (x := (i : Int) + 1) (by omega) (by omega)]
    exact ih (i + 1) _ (by omega) (by omega) (by omega) (next_lt x _ i hx1)
/-- What GetNum tells. -/
def gres (l : List Int) (a : Int) : Int × Int × Bool := if 0 ≤ a ∧ a < l.length then gtup a (gnum (l.drop a.toNat) 0 0) else (0, 0, false)
theorem iGetNum_ev (l : List Int) (hu : U8s l) (a : Int) (hl : l.length ≤ 4611686018427387904) : Ev (fun k => impl_GetNum.f k l a) (gres l a) := by
 unfold impl_GetNum.f gres
 rw [w64 (x := (l.length : Int) - 1) (by omega) (by omega)]
 simp only [in_eq, Option.bind_some, decide_eq_true_eq]
 by_cases c : 0 ≤ a ∧ a < l.length
 ·simp only [show 0 ≤ a ∧ a ≤ (l.length : Int) - 1 by omega, c, show 0 ≤ a from c.1, show a ≤ (l.length : Int) by omega, and_self, if_true]
  have hs : U8s (l.drop a.toNat) := fun x hx => hu x (List.mem_of_mem_drop hx)
  have := iGetNum_l0 (l.drop a.toNat) hs a c.1 (by omega) (by rw [List.length_drop]; omega) (l.drop a.toNat).length 0 0 (by omega) (by omega) (by omega) (by simp)
  simpa using this
 ·rw [if_neg c]
  simp only [show ¬ (0 ≤ a ∧ a ≤ (l.length : Int) - 1) by omega, if_false]
  exact Ev.now _
/-- A cursor's place. -/
def Cu (b : List Int) (i : Int) : Prop := 0 ≤ i ∧ i ≤ b.length ∧ b.length ≤ 1048576
theorem and255_in (y : Int) : 0 ≤ Go.bits .and .i64 y 255 ∧ Go.bits .and .i64 y 255 ≤ 255 := by
 have e : Go.bits .and .i64 y 255 = IntKind.i64.wrap ((BitVec.ofInt 64 y &&& BitVec.ofInt 64 255).toNat : Int) := rfl
 have h1 : (BitVec.ofInt 64 y &&& BitVec.ofInt 64 255).toNat ≤ 255 := by
  rw [BitVec.toNat_and]
  exact Nat.le_trans Nat.and_le_right (by decide)
 have h2 : IntKind.i64.wrap ((BitVec.ofInt 64 y &&& BitVec.ofInt 64 255).toNat : Int) = ((BitVec.ofInt 64 y &&& BitVec.ofInt 64 255).toNat : Int) := by
  rw [IntKind.wrap_i64]
  omega
 rw [e, h2]
 omega
theorem l1Byte_ok {b : List Int} {i : Int} (h : Int) (hc : Cu b i) : ∃ x i' h', spec_l1Byte.f b i h = some (x, i', h') ∧ (0 ≤ x ∧ x ≤ 255) ∧ Cu b i' := by
 obtain ⟨h0, h1, h2⟩ := hc
 unfold spec_l1Byte.f
 by_cases c : i < (b.length : Int)
 ·rw [if_pos c, if_pos h0]
  exact ⟨_, _, _, rfl, and255_in _, by rw [w64 (by omega) (by omega)]; exact ⟨by omega, by omega, h2⟩⟩
 ·rw [if_neg c]
  exact ⟨_, _, _, rfl, and255_in _, h0, h1, h2⟩
theorem l1Below_ok {b : List Int} {i : Int} (h n : Int) (hn : n ≤ 9223372036854775807) (hc : Cu b i) : ∃ x i' h', spec_l1Below.f b i h n = some (x, i', h') ∧ 0 ≤ x ∧ (0 < n → x < n) ∧ (n ≤ 0 → x = 0) ∧ x ≤ 4294967295 ∧ Cu b i' := by
 unfold spec_l1Below.f
 by_cases c : n ≤ 0
 ·rw [if_pos c]
  exact ⟨_, _, _, rfl, by omega, by omega, fun _ => rfl, by omega, hc⟩
 ·rw [if_neg c]
  by_cases c2 : n ≤ 256
  ·rw [if_pos c2]
   obtain ⟨x, i', h', e, hx, hc'⟩ := l1Byte_ok h hc
   rw [e]
   simp only [Option.bind_some, if_neg (show ¬ (n = 0) by omega)]
   rw [Int.tmod_eq_emod_of_nonneg hx.1]
   have h1 := Int.emod_nonneg x (show n ≠ 0 by omega)
   have h2 := Int.emod_lt_of_pos x (show 0 < n by omega)
   exact ⟨_, _, _, rfl, h1, fun _ => h2, by omega, by omega, hc'⟩
  ·rw [if_neg c2]
   obtain ⟨x, i1, h1, e1, hx, hc1⟩ := l1Byte_ok h hc
   obtain ⟨y, i2, h2, e2, hy, hc2⟩ := l1Byte_ok h1 hc1
   obtain ⟨z, i3, h3, e3, hz, hc3⟩ := l1Byte_ok h2 hc2
   obtain ⟨w, i4, h4, e4, hw, hc4⟩ := l1Byte_ok h3 hc3
   rw [e1]
   simp only [Option.bind_some]
   rw [e2]
   simp only [Option.bind_some]
   rw [e3]
   simp only [Option.bind_some]
   rw [e4]
   simp only [Option.bind_some, if_neg (show ¬ (n = 0) by omega)]
   have ew : wrap64 (wrap64 (wrap64 (wrap64 (x * 16777216) + wrap64 (y * 65536)) + wrap64 (z * 256)) + w) = x * 16777216 + y * 65536 + z * 256 + w := by
    rw [w64 (x := x * 16777216) (by omega) (by omega), w64 (x := y * 65536) (by omega) (by omega), w64 (x := z * 256) (by omega) (by omega), w64 (x := x * 16777216 + y * 65536) (by omega) (by omega), w64 (x := x * 16777216 + y * 65536 + z * 256) (by omega) (by omega), w64 (by omega) (by omega)]
   rw [ew, Int.tmod_eq_emod_of_nonneg (by omega)]
   have g1 := Int.emod_nonneg (x * 16777216 + y * 65536 + z * 256 + w) (show n ≠ 0 by omega)
   have g2 := Int.emod_lt_of_pos (x * 16777216 + y * 65536 + z * 256 + w) (show 0 < n by omega)
   have g3 : (x * 16777216 + y * 65536 + z * 256 + w) % n ≤ x * 16777216 + y * 65536 + z * 256 + w := by
    have q1 := Int.emod_add_mul_ediv (x * 16777216 + y * 65536 + z * 256 + w) n
    have q2 : 0 ≤ n * ((x * 16777216 + y * 65536 + z * 256 + w) / n) := Int.mul_nonneg (by omega) (Int.ediv_nonneg (by omega) (by omega))
    omega
   exact ⟨_, _, _, rfl, g1, fun _ => g2, by omega, by omega, hc4⟩
theorem l1New_l0 (b : List Int) (hl : b.length ≤ 1048576) (d : Nat) : ∀ (i : Nat) (x : Int), i + d = b.length → ∃ h, Ev (fun k => spec_l1New.l0 k b x (i : Int)) (b, 0, h) := by
 induction d with
 | zero =>
  intro i x hi
  refine ⟨x, Ev.step (fun k => by simp only [spec_l1New.l0]; rfl) ?_⟩
  simp only [show ¬ ((i : Int) < (b.length : Int)) by omega, if_false]
  exact Ev.now _
 | succ d ih =>
  intro i x hi
  by_cases c : (i : Int) < 4000
  ·obtain ⟨h, hh⟩ := ih (i + 1) (Go.bits .and .i64 (wrap64 ((wrap64 ((wrap64 (x * 131)) + (wrap64 (rd b (i : Int))))) + 7)) 1073741823) (by omega)
   refine ⟨h, Ev.step (fun k => by simp only [spec_l1New.l0]; rfl) ?_⟩
   simp only [show (i : Int) < (b.length : Int) by omega, c, show (0 : Int) ≤ (i : Int) by omega, if_true]
   rw [w64 (x := (i : Int) + 1) (by omega) (by omega)]
   exact hh
  ·refine ⟨x, Ev.step (fun k => by simp only [spec_l1New.l0]; rfl) ?_⟩
   simp only [show (i : Int) < (b.length : Int) by omega, c, if_true, if_false]
   exact Ev.now _
theorem l1New_ev (b : List Int) (hl : b.length ≤ 1048576) : ∃ h, Ev (fun k => spec_l1New.f k b) (b, 0, h) := by
 unfold spec_l1New.f
 exact l1New_l0 b hl b.length 0 _ (by omega)
theorem cu0 {b : List Int} (hl : b.length ≤ 1048576) : Cu b 0 := ⟨by omega, by omega, hl⟩
theorem l1PickInt_ok {b : List Int} {i : Int} (h : Int) (l : List Int) (hl0 : 0 < l.length) (hl1 : l.length ≤ 256) (hc : Cu b i) : ∃ x i' h', spec_l1PickInt.f b i h l = some (x, i', h') ∧ x ∈ l ∧ Cu b i' := by
 unfold spec_l1PickInt.f
 obtain ⟨x, i', h', e, hx0, hx1, _, _, hc'⟩ := l1Below_ok h (l.length : Int) (by omega) hc
 rw [e]
 have := hx1 (by omega)
 simp only [Option.bind_some, if_pos hx0, if_pos this]
 refine ⟨_, _, _, rfl, ?_, hc'⟩
 unfold rd
 rw [List.getD_eq_getElem?_getD, List.getElem?_eq_getElem (by omega)]
 exact List.getElem_mem _
theorem l1DrawTime_ok {b : List Int} {i : Int} (h : Int) (hc : Cu b i) : ∃ x i' h', spec_l1DrawTime.f b i h = some (x, i', h') ∧ (-1000000000000 ≤ x ∧ x ≤ 1000000000000) ∧ Cu b i' := by
 unfold spec_l1DrawTime.f
 obtain ⟨x, i', h', e, hx0, hx1, _, _, hc'⟩ := l1Below_ok h 12 (by omega) hc
 rw [e]
 simp only [Option.bind_some]
 by_cases c0 : x = 0
 ·rw [if_pos c0]
  obtain ⟨y, i2, h2, e2, hy, hc2⟩ := l1PickInt_ok h' [(-1000000000000), 1000000000000, 999999999999, (-999999999999), 0] (by simp) (by simp) hc'
  rw [e2]
  refine ⟨_, _, _, rfl, ?_, hc2⟩
  simp at hy
  omega
 ·rw [if_neg c0]
  by_cases c1 : x = 1
  ·rw [if_pos c1]
   obtain ⟨y, i2, h2, e2, hy0, hy1, _, _, hc2⟩ := l1Below_ok h' 1000000000 (by omega) hc'
   rw [e2]
   simp only [Option.bind_some]
   obtain ⟨z, i3, h3, e3, hz, hc3⟩ := l1PickInt_ok h2 [1, (-1), 900] (by simp) (by simp) hc2
   rw [e3]
   refine ⟨_, _, _, rfl, ?_, hc3⟩
   have := hy1 (by omega)
   simp at hz
   rcases hz with rfl | rfl | rfl <;> (rw [w64 (by omega) (by omega)]; omega)
  ·rw [if_neg c1]
   obtain ⟨y, i2, h2, e2, hy0, hy1, _, _, hc2⟩ := l1Below_ok h' 120 (by omega) hc'
   rw [e2]
   have := hy1 (by omega)
   refine ⟨_, _, _, rfl, ?_, hc2⟩
   rw [w64 (by omega) (by omega)]
   omega

theorem l1Once_ok {b : List Int} {i : Int} (h n : Int) (hn : n ≤ 9223372036854775807) (hc : Cu b i) : ∃ x i' h', spec_l1Once.f b i h n = some (x, i', h') ∧ Cu b i' := by
 unfold spec_l1Once.f
 obtain ⟨x, i', h', e, _, _, _, _, hc'⟩ := l1Below_ok h n hn hc
 rw [e]
 exact ⟨_, _, _, rfl, hc'⟩
theorem big_eq (l : List Int) : laws_big.f l = some (decide ((l.length : Int) > 1048576)) := rfl
theorem wrap64_le (x : Int) : wrap64 x ≤ 9223372036854775807 := by unfold wrap64; omega
/-- When a message is one. -/
def msgOk (kind frm tq nonce lo hi slot : Int) (body : ByteArray) : Bool :=
 decide (0 ≤ frm ∧ frm ≤ 7 ∧ ((kind = 3 ∧ 0 ≤ slot ∧ slot ≤ 15 ∧ body.size ≤ 24 ∧ tq = 0 ∧ nonce = 0 ∧ lo = 0 ∧ hi = 0) ∨
  (kind ≠ 3 ∧ 0 ≤ tq ∧ tq ≤ 7 ∧ frm ≠ tq ∧ 0 ≤ nonce ∧ nonce ≤ 100000999 ∧ slot = 0 ∧ body.size = 0 ∧ ((kind = 1 ∧ lo = 0 ∧ hi = 0) ∨ (kind = 2 ∧ -1000000000000 ≤ lo ∧ lo ≤ hi ∧ hi ≤ 1000000000000)))))
theorem empty_iff (s : ByteArray) : s.toList = [] ↔ s.size = 0 := by
 rw [ByteArray.toList_eq, ← List.length_eq_zero_iff]
 rfl
theorem isNode_eq (a : Int) : impl_isNode.f a = some (decide (0 ≤ a ∧ a ≤ 7)) := by
 unfold impl_isNode.f
 rw [in_eq]
 rfl
theorem iMsgOk_eq (kind frm tq nonce lo hi slot : Int) (body : ByteArray) : impl_MsgOk.f kind frm tq nonce lo hi slot body = some (msgOk kind frm tq nonce lo hi slot body) := by
 unfold impl_MsgOk.f msgOk
 simp only [isNode_eq, in_eq, iIvalOk_eq, Option.bind_some, decide_eq_true_eq, empty_iff]
 by_cases c1 : 0 ≤ frm ∧ frm ≤ 7
 ·rw [if_pos c1]
  by_cases c2 : kind = 3
  ·rw [if_pos c2]
   subst c2
   by_cases c3 : 0 ≤ slot ∧ slot ≤ 15
   ·rw [if_pos c3]
    by_cases c4 : (body.size : Int) ≤ 24
    ·rw [if_pos c4]
     simp only [Option.some.injEq]
     rw [Bool.eq_iff_iff]
     simp
     omega
    ·rw [if_neg c4]
     simp only [Option.some.injEq]
     exact (decide_eq_false (by omega)).symm
   ·rw [if_neg c3]
    simp only [Option.some.injEq]
    exact (decide_eq_false (by omega)).symm
  ·rw [if_neg c2]
   repeat' split
   all_goals (simp only [Option.some.injEq]; try simp only [Bool.and_eq_true, beq_iff_eq] at *)
   all_goals first | exact (decide_eq_false (by omega)).symm | exact (decide_eq_true (by omega)).symm | (rw [decide_eq_decide]; omega)
 ·rw [if_neg c1]
  simp only [Option.some.injEq]
  exact (decide_eq_false (by omega)).symm
theorem l4Node_eq (a : Int) : spec_l4Node.f a = some (decide (0 ≤ a ∧ a ≤ 7)) := by
 unfold spec_l4Node.f
 rw [l1In_eq]
 rfl
theorem empty_beq (s : ByteArray) : (s.toList == ([] : List UInt8)) = decide (s.size = 0) := by
 rw [Bool.eq_iff_iff, beq_iff_eq, decide_eq_true_eq]
 exact empty_iff s
theorem j1_eq (k : Nat) (b : Bool) (kind frm tq nonce lo hi slot : Int) (body : ByteArray) : spec_MsgOk.j1 (k + 1) b kind frm tq nonce lo hi slot body =
  some (decide ((kind = 1 ∧ b = true ∧ lo = 0 ∧ hi = 0) ∨ (kind = 2 ∧ b = true ∧ -1000000000000 ≤ lo ∧ lo ≤ hi ∧ hi ≤ 1000000000000) ∨ (kind = 3 ∧ tq = 0 ∧ nonce = 0 ∧ lo = 0 ∧ hi = 0 ∧ 0 ≤ slot ∧ slot ≤ 15))) := by
 simp only [spec_MsgOk.j1, l1In_eq, sIvalOk_eq, Option.bind_some]
 by_cases k1 : kind = 1
 ·subst k1
  cases b
  ·simp
  ·simp only [if_true, Option.some.injEq]
   rw [Bool.eq_iff_iff]
   simp
 ·by_cases k2 : kind = 2
  ·subst k2
   cases b
   ·simp
   ·simp
  ·by_cases k3 : kind = 3
   ·subst k3
    by_cases c1 : tq = 0
    ·by_cases c2 : nonce = 0
     ·by_cases c3 : lo = 0
      ·by_cases c4 : hi = 0
       ·simp [c1, c2, c3, c4]
       ·simp [c1, c2, c3, c4]
      ·simp [c1, c2, c3]
     ·simp [c1, c2]
    ·simp [c1]
   ·simp [k1, k2, k3]
theorem sMsgOk_eq2 (k : Nat) (kind frm tq nonce lo hi slot : Int) (body : ByteArray) : spec_MsgOk.f (k + 2) kind frm tq nonce lo hi slot body = some (msgOk kind frm tq nonce lo hi slot body) := by
 unfold spec_MsgOk.f msgOk
 simp only [spec_MsgOk.j0, j1_eq, l4Node_eq, l1In_eq, Option.bind_some, decide_eq_true_eq, empty_beq, if_true]
 by_cases c1 : 0 ≤ frm ∧ frm ≤ 7
 ·rw [if_pos c1]
  by_cases c2 : (body.size : Int) > 24
  ·rw [if_pos c2]
   simp only [Option.some.injEq]
   exact (decide_eq_false (by omega)).symm
  ·rw [if_neg c2]
   by_cases c3 : 0 ≤ tq ∧ tq ≤ 7
   ·rw [if_pos c3]
    by_cases c4 : tq = frm
    ·rw [if_pos c4]
     simp only [Option.some.injEq, decide_eq_decide, Bool.false_eq_true, false_and, and_false, false_or]
     omega
    ·rw [if_neg c4]
     by_cases c5 : 0 ≤ nonce ∧ nonce ≤ 100000999
     ·rw [if_pos c5]
      by_cases c6 : slot = 0
      ·rw [if_pos c6]
       simp only [Option.some.injEq, decide_eq_decide]
       omega
      ·rw [if_neg c6]
       simp only [Option.some.injEq, decide_eq_decide, Bool.false_eq_true, false_and, and_false, false_or]
       omega
     ·rw [if_neg c5]
      simp only [Option.some.injEq, decide_eq_decide, Bool.false_eq_true, false_and, and_false, false_or]
      omega
   ·rw [if_neg c3]
    simp only [Option.some.injEq, decide_eq_decide, Bool.false_eq_true, false_and, and_false, false_or]
    omega
 ·rw [if_neg c1]
  simp only [Option.some.injEq]
  exact (decide_eq_false (by omega)).symm
theorem ev_if {α : Type} {c : Prop} [Decidable c] {f g : Nat → Option α} {r : α} (hc : c) (h : Ev f r) : Ev (fun k => if c then f k else g k) r := by
 simp only [hc, if_true]
 exact h
theorem ev_ifn {α : Type} {c : Prop} [Decidable c] {f g : Nat → Option α} {r : α} (hc : ¬ c) (h : Ev g r) : Ev (fun k => if c then f k else g k) r := by
 simp only [hc, if_false]
 exact h
theorem ev2 {α : Type} {g : Nat → Option α} {r : α} (h : ∀ k, g (k + 2) = some r) : Ev g r := ⟨2, fun k hk => by obtain ⟨m, rfl⟩ : ∃ m, k = m + 2 := ⟨k - 2, by omega⟩; exact h m⟩
def fold (x : Int) : Int := if x < 0 then -2 * x - 1 else 2 * x
theorem fold_bd {x : Int} (h : -1000000000000 ≤ x ∧ x ≤ 1000000000000) : 0 ≤ fold x ∧ fold x ≤ 2000000000000 := by unfold fold; omega
theorem iFold_eq {x : Int} (h : -1000000000000 ≤ x ∧ x ≤ 1000000000000) : impl_Fold.f x = some (fold x) := by
 unfold impl_Fold.f fold
 simp only [in_eq, Option.bind_some, h, and_self, decide_true, if_true]
 by_cases c : x < 0
 ·rw [if_pos c, if_pos c, w64 (x := -2 * x) (by omega) (by omega), w64 (by omega) (by omega)]
 ·rw [if_neg c, if_neg c, w64 (by omega) (by omega)]
theorem u8_of {c : Int} (h : 0 ≤ c ∧ c ≤ 255) : (Lit.int .u8 c).wf = true := by
 simp [Lit.wf, IntKind.min, IntKind.max, IntKind.signed, IntKind.bits]
 omega
theorem bytes_u8 (b : ByteArray) : ∀ c ∈ bytesOf b, 0 ≤ c ∧ c ≤ 255 := by
 intro c hc
 unfold bytesOf at hc
 obtain ⟨u, _, rfl⟩ := List.mem_map.1 hc
 have := u.toNat_lt
 constructor
 ·exact Int.natCast_nonneg _
 ·have : u.toNat < 256 := u.toNat_lt
  omega
/-- A message's form, but for its check. -/
def packE (kind frm tq nonce lo hi slot : Int) (body : ByteArray) : List Int :=
 if kind = 2 then ((if kind = 3 then (([kind % 256] ++ numL frm.toNat) ++ numL slot.toNat) ++ numL (body.size : Int).toNat ++ bytesOf body else (([kind % 256] ++ numL frm.toNat) ++ numL tq.toNat) ++ numL nonce.toNat) ++ numL (fold lo).toNat) ++ numL (fold hi).toNat
 else (if kind = 3 then (([kind % 256] ++ numL frm.toNat) ++ numL slot.toNat) ++ numL (body.size : Int).toNat ++ bytesOf body else (([kind % 256] ++ numL frm.toNat) ++ numL tq.toNat) ++ numL nonce.toNat)
def packB (kind frm tq nonce lo hi slot : Int) (body : ByteArray) : List Int := packE kind frm tq nonce lo hi slot body ++ [(crc 90 (packE kind frm tq nonce lo hi slot body) : Int) % 256]
theorem msgOk_iff {kind frm tq nonce lo hi slot : Int} {body : ByteArray} : msgOk kind frm tq nonce lo hi slot body = true ↔ (0 ≤ frm ∧ frm ≤ 7 ∧ ((kind = 3 ∧ 0 ≤ slot ∧ slot ≤ 15 ∧ body.size ≤ 24 ∧ tq = 0 ∧ nonce = 0 ∧ lo = 0 ∧ hi = 0) ∨
  (kind ≠ 3 ∧ 0 ≤ tq ∧ tq ≤ 7 ∧ frm ≠ tq ∧ 0 ≤ nonce ∧ nonce ≤ 100000999 ∧ slot = 0 ∧ body.size = 0 ∧ ((kind = 1 ∧ lo = 0 ∧ hi = 0) ∨ (kind = 2 ∧ -1000000000000 ≤ lo ∧ lo ≤ hi ∧ hi ≤ 1000000000000))))) := by
 unfold msgOk
 exact decide_eq_true_iff
theorem num9 {x : Int} (h0 : 0 ≤ x) (h1 : x ≤ 9223372036854775807) : (numL x.toNat).length ≤ 9 := numL_len9 _ (by omega)
theorem u8s_app {a b : List Int} (h1 : U8s a) (h2 : U8s b) : U8s (a ++ b) := by
 intro c hc
 rcases List.mem_append.1 hc with h | h
 ·exact h1 c h
 ·exact h2 c h
theorem packE_u8 (kind frm tq nonce lo hi slot : Int) (body : ByteArray) : U8s (packE kind frm tq nonce lo hi slot body) := by
 have hn : ∀ n, U8s (numL n) := fun n c hc => u8_of (numL_u8 n c hc)
 have hb : U8s (bytesOf body) := fun c hc => u8_of (bytes_u8 body c hc)
 have hk : U8s [kind % 256] := by
  intro c hc
  rw [List.mem_singleton] at hc
  rw [hc]
  exact u8_of (by omega)
 unfold packE
 split <;> split <;> repeat' (first | exact hn _ | exact hb | exact hk | apply u8s_app)
theorem packE_len {kind frm tq nonce lo hi slot : Int} {body : ByteArray} (h : msgOk kind frm tq nonce lo hi slot body = true) : (packE kind frm tq nonce lo hi slot body).length ≤ 1000 := by
 have g := msgOk_iff.1 h
 have a1 := num9 g.1 (by omega)
 have a2 := num9 (x := tq) (by omega) (by omega)
 have a3 := num9 (x := nonce) (by omega) (by omega)
 have a4 := num9 (x := slot) (by omega) (by omega)
 have a5 := num9 (x := (body.size : Int)) (by omega) (by omega)
 have b1 := fold_bd (x := lo) (by omega)
 have b2 := fold_bd (x := hi) (by omega)
 have a6 := num9 (x := fold lo) b1.1 (by omega)
 have a7 := num9 (x := fold hi) b2.1 (by omega)
 unfold packE
 split <;> split <;> simp only [List.length_append, List.length_cons, List.length_nil, bytesOf_length] <;> omega
theorem packB_len {kind frm tq nonce lo hi slot : Int} {body : ByteArray} (h : msgOk kind frm tq nonce lo hi slot body = true) : (packB kind frm tq nonce lo hi slot body).length ≤ 1001 := by
 unfold packB
 rw [List.length_append]
 have := packE_len h
 simp only [List.length_cons, List.length_nil]
 omega
theorem iPack_j0 {kind frm tq nonce lo hi slot : Int} {body : ByteArray} (h : msgOk kind frm tq nonce lo hi slot body = true) :
  Ev (fun k => impl_Msg_pack.j0 k (if kind = 3 then (([kind % 256] ++ numL frm.toNat) ++ numL slot.toNat) ++ numL (body.size : Int).toNat ++ bytesOf body else (([kind % 256] ++ numL frm.toNat) ++ numL tq.toNat) ++ numL nonce.toNat) kind frm tq nonce lo hi slot body) (packB kind frm tq nonce lo hi slot body) := by
 have g := msgOk_iff.1 h
 have hu := packE_u8 kind frm tq nonce lo hi slot body
 have hl := packE_len h
 have b1 := fold_bd (x := lo) (by omega)
 have b2 := fold_bd (x := hi) (by omega)
 have a6 := num9 (x := fold lo) b1.1 (by omega)
 have a7 := num9 (x := fold hi) b2.1 (by omega)
 refine Ev.step (fun k => by simp only [impl_Msg_pack.j0]; rfl) ?_
 unfold packB
 unfold packE at hu hl ⊢
 by_cases c2 : kind = 2
 ·rw [if_pos c2] at hu hl ⊢
  refine ev_if c2 ?_
  generalize (if kind = 3 then (([kind % 256] ++ numL frm.toNat) ++ numL slot.toNat) ++ numL (body.size : Int).toNat ++ bytesOf body else (([kind % 256] ++ numL frm.toNat) ++ numL tq.toNat) ++ numL nonce.toNat) = m at *
  rw [List.length_append, List.length_append] at hl
  simp only [iFold_eq (x := lo) (by omega), iFold_eq (x := hi) (by omega), Option.bind_some]
  refine Ev.bind (iPutNum_ev _ b1.1 (by omega)) ?_
  refine ev_if (by omega) ?_
  refine Ev.bind (iPutNum_ev _ b2.1 (by omega)) ?_
  refine ev_if (by rw [List.length_append]; omega) ?_
  refine Ev.bind (iCheck8_ev _ hu (by simp only [List.length_append]; omega)) ?_
  refine ev_if (by simp only [List.length_append]; omega) ?_
  exact Ev.now _
 ·rw [if_neg c2] at hu hl ⊢
  refine ev_ifn c2 ?_
  refine Ev.bind (iCheck8_ev _ hu (by omega)) ?_
  refine ev_if (by omega) ?_
  exact Ev.now _
theorem iMsgpack_ev {kind frm tq nonce lo hi slot : Int} {body : ByteArray} (h : msgOk kind frm tq nonce lo hi slot body = true) : Ev (fun k => impl_Msg_pack.f k kind frm tq nonce lo hi slot body) (packB kind frm tq nonce lo hi slot body) := by
 have g := msgOk_iff.1 h
 have a1 := num9 g.1 (by omega)
 have a2 := num9 (x := tq) (by omega) (by omega)
 have a3 := num9 (x := nonce) (by omega) (by omega)
 have a4 := num9 (x := slot) (by omega) (by omega)
 have a5 := num9 (x := (body.size : Int)) (by omega) (by omega)
 have hj := iPack_j0 h
 unfold impl_Msg_pack.f
 simp only [Option.bind_some]
 refine Ev.bind (iPutNum_ev _ g.1 (by omega)) ?_
 refine ev_if (by simp only [List.length_cons, List.length_nil]; omega) ?_
 by_cases c3 : kind = 3
 ·rw [if_pos c3] at hj
  refine ev_if c3 ?_
  refine Ev.bind (iPutNum_ev slot (by omega) (by omega)) ?_
  refine ev_if (by simp only [List.length_append, List.length_cons, List.length_nil]; omega) ?_
  refine Ev.bind (iPutNum_ev (body.size : Int) (by omega) (by omega)) ?_
  refine ev_if (by simp only [List.length_append, List.length_cons, List.length_nil]; omega) ?_
  refine ev_if (by simp only [List.length_append, List.length_cons, List.length_nil]; omega) ?_
  exact hj
 ·rw [if_neg c3] at hj
  refine ev_ifn c3 ?_
  refine Ev.bind (iPutNum_ev tq (by omega) (by omega)) ?_
  refine ev_if (by simp only [List.length_append, List.length_cons, List.length_nil]; omega) ?_
  refine Ev.bind (iPutNum_ev nonce (by omega) (by omega)) ?_
  refine ev_if (by simp only [List.length_append, List.length_cons, List.length_nil]; omega) ?_
  exact hj
theorem iPack_ev (kind frm tq nonce lo hi slot : Int) (body : ByteArray) : Ev (fun k => impl_Pack.f k kind frm tq nonce lo hi slot body) (if msgOk kind frm tq nonce lo hi slot body = true then (packB kind frm tq nonce lo hi slot body, true) else ([], false)) := by
 unfold impl_Pack.f
 simp only [iMsgOk_eq, Option.bind_some]
 by_cases h : msgOk kind frm tq nonce lo hi slot body = true
 ·rw [if_pos h]
  refine ev_if h ?_
  refine Ev.bind (iMsgpack_ev h) ?_
  exact Ev.now _
 ·rw [if_neg h]
  refine ev_ifn h ?_
  exact Ev.now _
theorem l4DrawBody_l0 (b : List Int) (n : Nat) (hn : n ≤ 1000) (d : Nat) : ∀ (i : Nat) (acc : List Int) (c h : Int), i + d = n → acc.length ≤ i → Cu b c → ∃ s c' h', Ev (fun k => spec_l4DrawBody.l0 k acc (n : Int) (i : Int) b c h) (s, c', h') ∧ Cu b c' := by
 induction d with
 | zero =>
  intro i acc c h hi ha hc
  refine ⟨strOfNums acc, c, h, Ev.step (fun k => by simp only [spec_l4DrawBody.l0]; rfl) ?_, hc⟩
  exact ev_ifn (by omega) (Ev.now _)
 | succ d ih =>
  intro i acc c h hi ha hc
  obtain ⟨x, c1, h1, e, _, hc1⟩ := l1PickInt_ok h [97, 98, 99, 32, 48, 0, 255, 128, 34, 92] (by simp) (by simp) hc
  obtain ⟨s, c2, h2, he, hc2⟩ := ih (i + 1) (acc ++ [x % 256]) c1 h1 (by omega) (by rw [List.length_append, List.length_singleton]; omega) hc1
  refine ⟨s, c2, h2, Ev.step (fun k => by simp only [spec_l4DrawBody.l0]; rfl) ?_, hc2⟩
  refine ev_if (by omega) ?_
  simp only [e, Option.bind_some]
  refine ev_if (by omega) ?_
  rw [w64 (x := (i : Int) + 1) (by omega) (by omega)]
  exact he
theorem l4DrawBody_ev (b : List Int) (c h most : Int) (h0 : 0 ≤ most) (h1 : most ≤ 100) (hc : Cu b c) : ∃ s c' h', Ev (fun k => spec_l4DrawBody.f k b c h most) (s, c', h') ∧ Cu b c' := by
 unfold spec_l4DrawBody.f
 rw [w64 (x := most + 1) (by omega) (by omega)]
 obtain ⟨x, c1, h1, e, hx0, hx1, _, _, hc1⟩ := l1Below_ok h (most + 1) (by omega) hc
 have := hx1 (by omega)
 simp only [e, Option.bind_some]
 obtain ⟨n, rfl⟩ := Int.eq_ofNat_of_zero_le hx0
 obtain ⟨s, c2, h2, he, hc2⟩ := l4DrawBody_l0 b n (by omega) n 0 [] c1 h1 (by omega) (by simp) hc1
 exact ⟨s, c2, h2, by simpa using he, hc2⟩
abbrev Res := Int × Int × Int × Int × Int × Int × Int × ByteArray × Int
def err (c : Int) : Res := (0, 0, 0, 0, 0, 0, 0, (⟨#[]⟩ : ByteArray), c)
/-- A number of a message, and the place behind it. -/
def rdNum (b : List Int) (a : Int) : Option (Int × Int) :=
 if 0 ≤ a ∧ a < b.length then (match gnum (b.drop a.toNat) 0 0 with | none => none | some (x, n) => if x > 4000000000000 then none else some (x, a + n)) else none
theorem gnum_bd (s : List Int) : ∀ (k : Nat) (x y : Int) (n : Nat), 0 ≤ x → gnum s k x = some (y, n) → x ≤ y ∧ k < n ∧ n ≤ k + s.length := by
 induction s with
 | nil => intro k x y n h0 h; simp [gnum] at h
 | cons c s ih =>
  intro k x y n h0 h
  have hp : 0 ≤ c % 128 * 128 ^ k := Int.mul_nonneg (by omega) (Int.le_of_lt (Int.pow_pos (by omega)))
  rw [gnum] at h
  split at h
  ·cases h
  ·split at h
   ·split at h
    ·cases h
    ·injection h with h
     injection h with h1 h2
     simp only [List.length_cons]
     omega
   ·have := ih (k + 1) _ y n (by omega) h
    simp only [List.length_cons]
    omega
theorem rdNum_bd {b : List Int} {a x a' : Int} (h : rdNum b a = some (x, a')) : 0 ≤ a ∧ a < b.length ∧ 0 ≤ x ∧ x ≤ 4000000000000 ∧ a < a' ∧ a' ≤ b.length := by
 unfold rdNum at h
 split at h
 ·next hc =>
  split at h
  ·cases h
  ·next y n hg =>
   split at h
   ·cases h
   ·injection h with h
    injection h with h1 h2
    have := gnum_bd _ 0 0 _ _ (by omega) hg
    rw [List.length_drop] at this
    omega
 ·cases h
def unf (x : Int) : Int := if x % 2 = 1 then -((x + 1) / 2) else x / 2
def endv (x : Int) : Int := if x > 2000000000000 then 1000000000001 else unf x
theorem unf_bd {x : Int} (h : 0 ≤ x ∧ x ≤ 2000000000000) : -1000000000000 ≤ unf x ∧ unf x ≤ 1000000000000 := by unfold unf; split <;> omega
def unpFin (b : List Int) (at_ kind frm tq nonce lo hi slot : Int) (s : ByteArray) : Res :=
 if at_ < b.length then err 6 else if msgOk kind frm tq nonce lo hi slot s = true then (kind, frm, tq, nonce, lo, hi, slot, s, 0) else err 5
/-- What stands behind the kind. -/
def unp (b : List Int) (kind : Int) : Res :=
 match rdNum b 1 with
 | none => err 4
 | some (n0, a0) => match rdNum b a0 with
  | none => err 4
  | some (n1, a1) => match rdNum b a1 with
   | none => err 4
   | some (n2, a2) =>
    if kind = 3 then (if (b.length : Int) - a2 < n2 then err 4 else unpFin b (a2 + n2) kind n0 0 0 0 0 n1 (strOfNums ((b.take (a2 + n2).toNat).drop a2.toNat)))
    else if kind = 2 then (match rdNum b a2 with
     | none => err 4
     | some (n3, a3) => match rdNum b a3 with
      | none => err 4
      | some (n4, a4) => unpFin b a4 kind n0 n1 n2 (endv n3) (endv n4) 0 (⟨#[]⟩ : ByteArray))
    else unpFin b a2 kind n0 n1 n2 0 0 0 (⟨#[]⟩ : ByteArray)
def unpack (l : List Int) : Res :=
 if (l.length : Int) < 2 then err 1
 else if (crc 90 (l.take (l.length - 1)) : Int) = rd l ((l.length : Int) - 1) then (if 1 ≤ rd l 0 ∧ rd l 0 ≤ 3 then unp (l.take (l.length - 1)) (rd l 0) else err 3)
 else err 2
theorem u8s_take {l : List Int} (h : U8s l) (n : Nat) : U8s (l.take n) := fun x hx => h x (List.mem_of_mem_take hx)
theorem rd_take (l : List Int) (n : Nat) (h : 0 < n) : rd (l.take n) 0 = rd l 0 := by
 unfold rd
 rw [List.getD_eq_getElem?_getD, List.getD_eq_getElem?_getD]
 simp [List.getElem?_take, h]
theorem ev_ite {α : Type} {c : Prop} [Decidable c] {f g : Nat → Option α} {x y : α} (h1 : c → Ev f x) (h2 : ¬ c → Ev g y) : Ev (fun k => if c then f k else g k) (if c then x else y) := by
 by_cases h : c
 ·simp only [h, if_true]
  exact h1 h
 ·simp only [h, if_false]
  exact h2 h
theorem iUnfold_eq {x : Int} (h : 0 ≤ x) : impl_Unfold.f x = some (if x > 2000000000000 then 0 else unf x) := by
 unfold impl_Unfold.f unf
 simp only [in_eq, Option.bind_some, decide_eq_true_eq]
 by_cases c2 : x > 2000000000000
 ·rw [if_pos c2, if_neg (by omega)]
 ·rw [if_neg c2, if_pos (by omega)]
  rw [Int.tmod_eq_emod_of_nonneg h, Int.tdiv_eq_ediv_of_nonneg h, w64 (x := x + 1) (by omega) (by omega), w64 (x := -(x + 1)) (by omega) (by omega), w64 (x := x / 2) (by omega) (by omega)]
  by_cases c : x % 2 = 1
  ·rw [if_pos c, if_pos c]
   have e : Int.tdiv (-(x + 1)) 2 = -((x + 1) / 2) := by
    rw [Int.neg_tdiv, Int.tdiv_eq_ediv_of_nonneg (by omega)]
   rw [e, w64 (by omega) (by omega)]
  ·rw [if_neg c, if_neg c]
theorem iNum_bad (b : List Int) (a : Int) : Ev (fun k => impl_wire_num.f k b a true) (0, a, true) := by
 unfold impl_wire_num.f
 exact ev_if (by trivial) (Ev.now _)
theorem iNum_ev (b : List Int) (hu : U8s b) (hl : b.length ≤ 1048576) (a : Int) : Ev (fun k => impl_wire_num.f k b a false) (match rdNum b a with | none => (0, a, true) | some (x, a') => (x, a', false)) := by
 unfold impl_wire_num.f rdNum
 refine ev_ifn (by decide) (Ev.bind (iGetNum_ev b hu a (by omega)) ?_)
 unfold gres
 by_cases c : 0 ≤ a ∧ a < b.length
 ·rw [if_pos c, if_pos c]
  cases hg : gnum (b.drop a.toNat) 0 0 with
  | none => exact ev_ifn (by simp [gtup]) (Ev.now _)
  | some p =>
   obtain ⟨x, n⟩ := p
   by_cases c2 : x > 4000000000000
   ·simp only [if_pos c2]
    exact ev_if (by trivial) (ev_if c2 (Ev.now _))
   ·simp only [if_neg c2]
    exact ev_if (by trivial) (ev_ifn c2 (Ev.now _))
 ·rw [if_neg c, if_neg c]
  exact ev_ifn (by simp) (Ev.now _)
theorem iText_bad (b : List Int) (a n : Int) : impl_wire_text.f b a true n = some ((⟨#[]⟩ : ByteArray), a, true) := by
 unfold impl_wire_text.f
 simp
theorem iText_eq (b : List Int) (hl : b.length ≤ 1048576) (a n : Int) (h0 : 0 ≤ a ∧ a ≤ b.length) (hn : 0 ≤ n ∧ n ≤ 4000000000000) : impl_wire_text.f b a false n = some (if (b.length : Int) - a < n then ((⟨#[]⟩ : ByteArray), a, true) else (strOfNums ((b.take (a + n).toNat).drop a.toNat), a + n, false)) := by
 unfold impl_wire_text.f
 rw [w64 (x := (b.length : Int) - a) (by omega) (by omega), w64 (x := a + n) (by omega) (by omega), w64 (x := a + n - n) (by omega) (by omega), show a + n - n = a by omega]
 simp only [Bool.false_eq_true, if_false]
 by_cases c : (b.length : Int) - a < n
 ·rw [if_pos c, if_pos (show n > (b.length : Int) - a by omega)]
 ·rw [if_neg c, if_neg (show ¬ (n > (b.length : Int) - a) by omega), if_pos h0.1, if_pos (by omega), if_pos (by omega)]
theorem iUnp_bad1 (b : List Int) (last a : Int) (wr : Bool) (kind frm tq nonce lo hi slot : Int) (s : ByteArray) : Ev (fun k => impl_Unpack.j4 k last wr kind frm tq nonce lo hi slot s b a true) (err 4) := by
 refine Ev.step (fun k => by simp only [impl_Unpack.j4]; rfl) ?_
 exact ev_if (by trivial) (Ev.now _)
theorem iUnp_bad0 (b : List Int) (last a : Int) (kind frm tq nonce lo hi slot : Int) (s : ByteArray) : Ev (fun k => impl_Unpack.j3 k last false kind frm tq nonce lo hi slot s b a true) (err 4) := by
 refine Ev.step (fun k => by simp only [impl_Unpack.j3]; rfl) ?_
 by_cases c : kind = 2
 ·refine ev_if c (Ev.bind (iNum_bad b a) (Ev.bind (iNum_bad b a) (ev_ifn (by simp) ?_)))
  simp only [iUnfold_eq (x := 0) (by omega), Option.bind_some]
  exact iUnp_bad1 ..
 ·exact ev_ifn c (iUnp_bad1 ..)
theorem iUnp_fin (b : List Int) (a : Int) (wr : Bool) (kind frm tq nonce lo hi slot : Int) (s : ByteArray) (R : Res) (hR : R = (if a < b.length then err 6 else if wr = true then err 5 else if msgOk kind frm tq nonce lo hi slot s = true then (kind, frm, tq, nonce, lo, hi, slot, s, 0) else err 5)) :
  Ev (fun k => impl_Unpack.j4 k (b.length : Int) wr kind frm tq nonce lo hi slot s b a false) R := by
 rw [hR]
 refine Ev.step (fun k => by simp only [impl_Unpack.j4]; rfl) ?_
 refine ev_ifn (by decide) ?_
 refine ev_ite (fun _ => Ev.now _) (fun _ => ev_ite (fun _ => Ev.now _) (fun _ => ?_))
 simp only [iMsgOk_eq, Option.bind_some]
 exact ev_ite (fun _ => Ev.now _) (fun _ => Ev.now _)
theorem iUnp_fin0 (b : List Int) (a : Int) (kind frm tq nonce lo hi slot : Int) (s : ByteArray) (hk : ¬ kind = 2) : Ev (fun k => impl_Unpack.j3 k (b.length : Int) false kind frm tq nonce lo hi slot s b a false) (unpFin b a kind frm tq nonce lo hi slot s) := by
 refine Ev.step (fun k => by simp only [impl_Unpack.j3]; rfl) ?_
 refine ev_ifn hk (iUnp_fin b a false kind frm tq nonce lo hi slot s _ ?_)
 unfold unpFin
 simp
theorem msgOk_end {kind frm tq nonce x y : Int} (hk : kind = 2) (h : x > 2000000000000 ∨ y > 2000000000000) : msgOk kind frm tq nonce (endv x) (endv y) 0 (⟨#[]⟩ : ByteArray) = false := by
 unfold msgOk
 refine decide_eq_false ?_
 rintro ⟨_, _, hh⟩
 unfold endv at hh
 rcases h with h | h
 ·rw [if_pos h] at hh
  omega
 ·rw [if_pos h] at hh
  omega
theorem iUnp_two (b : List Int) (hu : U8s b) (hl : b.length ≤ 1048576) (a frm tq nonce : Int) : Ev (fun k => impl_Unpack.j3 k (b.length : Int) false 2 frm tq nonce 0 0 0 (⟨#[]⟩ : ByteArray) b a false) (match rdNum b a with
     | none => err 4
     | some (n3, a3) => match rdNum b a3 with
      | none => err 4
      | some (n4, a4) => unpFin b a4 2 frm tq nonce (endv n3) (endv n4) 0 (⟨#[]⟩ : ByteArray)) := by
 refine Ev.step (fun k => by simp only [impl_Unpack.j3]; rfl) ?_
 have e1 := iNum_ev b hu hl a
 refine ev_if (by trivial) (Ev.bind e1 ?_)
 cases h3 : rdNum b a with
 | none =>
  simp only
  refine Ev.bind (iNum_bad b a) (ev_ifn (by simp) ?_)
  simp only [iUnfold_eq (x := 0) (by omega), Option.bind_some]
  exact iUnp_bad1 ..
 | some p3 =>
  obtain ⟨n3, a3⟩ := p3
  have b3 := rdNum_bd h3
  simp only
  have e2 := iNum_ev b hu hl a3
  refine Ev.bind e2 ?_
  cases h4 : rdNum b a3 with
  | none =>
   simp only
   by_cases c : n3 > 2000000000000
   ·refine ev_if c ?_
    simp only [iUnfold_eq b3.2.2.1, iUnfold_eq (x := 0) (by omega), Option.bind_some]
    exact iUnp_bad1 ..
   ·refine ev_ifn c ?_
    simp only [iUnfold_eq b3.2.2.1, iUnfold_eq (x := 0) (by omega), Option.bind_some]
    exact iUnp_bad1 ..
  | some p4 =>
   obtain ⟨n4, a4⟩ := p4
   have b4 := rdNum_bd h4
   simp only
   by_cases c : n3 > 2000000000000
   ·refine ev_if c ?_
    simp only [iUnfold_eq b3.2.2.1, iUnfold_eq b4.2.2.1, Option.bind_some]
    refine iUnp_fin b a4 true _ _ _ _ _ _ _ _ _ ?_
    unfold unpFin
    rw [msgOk_end rfl (.inl c)]
    simp
   ·refine ev_ifn c ?_
    simp only [iUnfold_eq b3.2.2.1, iUnfold_eq b4.2.2.1, Option.bind_some]
    refine iUnp_fin b a4 _ _ _ _ _ _ _ _ _ _ ?_
    by_cases c4 : n4 > 2000000000000
    ·unfold unpFin
     rw [msgOk_end rfl (.inr c4)]
     simp [c4]
    ·unfold unpFin endv
     rw [if_neg c, if_neg c4]
     simp [c4, show ¬ (2000000000000 < n3) by omega]
theorem iUnpack_ev (l : List Int) (hu : U8s l) (hl : l.length ≤ 1048576) : Ev (fun k => impl_Unpack.f k l) (unpack l) := by
 unfold impl_Unpack.f unpack
 by_cases c : (l.length : Int) < 2
 ·rw [if_pos c]
  exact ev_if c (Ev.now _)
 ·rw [if_neg c]
  refine ev_ifn c (Ev.step (fun k => by simp only [impl_Unpack.j0]; rfl) ?_)
  have e : ((wrap64 ((l.length : Int) - 1)) : Int).toNat = l.length - 1 := by rw [w64 (by omega) (by omega)]; omega
  rw [e]
  have ew : wrap64 ((l.length : Int) - 1) = (l.length : Int) - 1 := w64 (by omega) (by omega)
  rw [ew]
  have hb := u8s_rd hu ((l.length : Int) - 1)
  have h0 := u8s_rd hu 0
  have ht : (l.take (l.length - 1)).length = l.length - 1 := by rw [List.length_take]; omega
  have hub := u8s_take hu (l.length - 1)
  refine ev_if (by omega) (ev_if (by omega) (ev_if (by omega) ?_))
  refine Ev.bind (iCheck8_ev _ hub (by omega)) ?_
  rw [w64 (x := rd l ((l.length : Int) - 1)) (by omega) (by omega)]
  by_cases c2 : (crc 90 (l.take (l.length - 1)) : Int) = rd l ((l.length : Int) - 1)
  ·rw [if_pos c2]
   refine ev_if c2.symm (Ev.step (fun k => by simp only [impl_Unpack.j1]; rfl) (ev_if (by omega) ?_))
   rw [w64 (x := rd l 0) (by omega) (by omega)]
   simp only [in_eq, Option.bind_some, decide_eq_true_eq]
   by_cases c3 : 1 ≤ rd l 0 ∧ rd l 0 ≤ 3
   ·rw [if_pos c3]
    refine ev_if c3 (Ev.step (fun k => by simp only [impl_Unpack.j2]; rfl) (ev_if (by omega) (ev_if (by omega) ?_)))
    rw [show ((l.length : Int) - 1).toNat = l.length - 1 by omega]
    generalize rd l 0 = kind at *
    have hlast : (l.length : Int) - 1 = ((l.take (l.length - 1)).length : Int) := by omega
    rw [hlast]
    generalize l.take (l.length - 1) = b at *
    have hbl : b.length ≤ 1048576 := by omega
    clear hb e ew
    refine Ev.bind (iNum_ev b hub hbl 1) ?_
    unfold unp
    cases h0 : rdNum b 1 with
    | none =>
     simp only
     by_cases ck : kind = 3
     ·refine ev_if ck (Ev.bind (iNum_bad b 1) (Ev.bind (iNum_bad b 1) ?_))
      simp only [iText_bad, Option.bind_some]
      exact iUnp_bad0 ..
     ·refine ev_ifn ck (Ev.bind (iNum_bad b 1) (Ev.bind (iNum_bad b 1) ?_))
      exact iUnp_bad0 ..
    | some p0 =>
     obtain ⟨n0, a0⟩ := p0
     simp only
     by_cases ck : kind = 3
     ·subst ck
      refine ev_if (by trivial) (Ev.bind (iNum_ev b hub hbl a0) ?_)
      cases h1 : rdNum b a0 with
      | none =>
       simp only
       refine Ev.bind (iNum_bad b a0) ?_
       simp only [iText_bad, Option.bind_some]
       exact iUnp_bad0 ..
      | some p1 =>
       obtain ⟨n1, a1⟩ := p1
       simp only
       refine Ev.bind (iNum_ev b hub hbl a1) ?_
       cases h2 : rdNum b a1 with
       | none =>
        simp only [iText_bad, Option.bind_some]
        exact iUnp_bad0 ..
       | some p2 =>
        obtain ⟨n2, a2⟩ := p2
        have b2 := rdNum_bd h2
        simp only [iText_eq b hbl a2 n2 (by omega) (by omega), Option.bind_some, if_true]
        by_cases c5 : (b.length : Int) - a2 < n2
        ·rw [if_pos c5, if_pos c5]
         exact iUnp_bad0 ..
        ·rw [if_neg c5, if_neg c5]
         exact iUnp_fin0 b (a2 + n2) 3 n0 0 0 0 0 n1 _ (by omega)
     ·refine ev_ifn ck (Ev.bind (iNum_ev b hub hbl a0) ?_)
      cases h1 : rdNum b a0 with
      | none =>
       simp only
       refine Ev.bind (iNum_bad b a0) ?_
       exact iUnp_bad0 ..
      | some p1 =>
       obtain ⟨n1, a1⟩ := p1
       simp only
       refine Ev.bind (iNum_ev b hub hbl a1) ?_
       cases h2 : rdNum b a1 with
       | none =>
        simp only
        exact iUnp_bad0 ..
       | some p2 =>
        obtain ⟨n2, a2⟩ := p2
        simp only [if_neg ck]
        by_cases ck2 : kind = 2
        ·subst ck2
         simp only [if_true]
         exact iUnp_two b hub hbl a2 n0 n1 n2
        ·simp only [if_neg ck2]
         exact iUnp_fin0 b a2 kind n0 n1 n2 0 0 0 _ ck2
   ·rw [if_neg c3]
    exact ev_ifn c3 (Ev.now _)
  ·rw [if_neg c2]
   exact ev_ifn (fun h => c2 h.symm) (Ev.now _)

theorem l1DrawIval_ev {b : List Int} {i : Int} (h : Int) (hc : Cu b i) : ∃ x y i' h', Ev (fun k => spec_l1DrawIval.f k b i h) (x, y, i', h') ∧ Cu b i' := by
 unfold spec_l1DrawIval.f
 obtain ⟨x, i1, h1, e1, hx, c1⟩ := l1DrawTime_ok h hc
 obtain ⟨y, i2, h2, e2, hy0, hy1, _, _, c2⟩ := l1Below_ok h1 60 (by omega) c1
 obtain ⟨z, i3, h3, e3, hz0, hz1, _, _, c3⟩ := l1Below_ok h2 30 (by omega) c2
 have j0 : ∀ (a c p q : Int), Ev (fun k => spec_l1DrawIval.j0 k b a c p q) (p, q, a, c) := fun a c p q => Ev.step (fun k => by simp only [spec_l1DrawIval.j0]) (Ev.now _)
 simp only [e1, e2, e3, l1Min_eq, Option.bind_some]
 by_cases d0 : z = 0
 ·exact ⟨_, _, _, _, ev_if d0 (j0 ..), c3⟩
 ·by_cases d1 : z = 1
  ·obtain ⟨p, i4, h4, e4, hp, c4⟩ := l1PickInt_ok h3 [1000000000000, 1000000000001, 9223372036854775807] (by simp) (by simp) c3
   simp only [e4, Option.bind_some]
   exact ⟨_, _, _, _, ev_ifn d0 (ev_if d1 (j0 ..)), c4⟩
  ·by_cases d2 : z = 2
   ·obtain ⟨p, i4, h4, e4, hp, c4⟩ := l1PickInt_ok h3 [(-1000000000000), (-1000000000001), (-9223372036854775807)] (by simp) (by simp) c3
    simp only [e4, Option.bind_some]
    exact ⟨_, _, _, _, ev_ifn d0 (ev_ifn d1 (ev_if d2 (j0 ..))), c4⟩
   ·exact ⟨_, _, _, _, ev_ifn d0 (ev_ifn d1 (ev_ifn d2 (j0 ..))), c3⟩
abbrev MR := Int × Int × Int × Int × Int × Int × Int × ByteArray × Int × Int
theorem l4DrawRight_j0 {b : List Int} (a c p0 p1 p2 p3 p4 p5 p6 : Int) (p7 : ByteArray) (hc : Cu b a) : ∃ r : MR, Ev (fun k => spec_l4DrawRight.j0 k b a c p0 p1 p2 p3 p4 p5 p6 p7) r ∧ Cu b r.2.2.2.2.2.2.2.2.1 := by
 by_cases c2 : p0 = 2
 ·obtain ⟨x, y, i1, h1, e1, c1⟩ := l1DrawIval_ev c hc
  by_cases c3 : decide (-1000000000000 ≤ x ∧ x ≤ y ∧ y ≤ 1000000000000) = true
  ·refine ⟨(p0, p1, p2, p3, x, y, p6, p7, i1, h1), Ev.step (fun k => by simp only [spec_l4DrawRight.j0]; rfl) (ev_if c2 (Ev.bind e1 ?_)), c1⟩
   simp only [sIvalOk_eq, Option.bind_some]
   exact ev_if c3 (Ev.now _)
  ·refine ⟨(p0, p1, p2, p3, -64, 64, p6, p7, i1, h1), Ev.step (fun k => by simp only [spec_l4DrawRight.j0]; rfl) (ev_if c2 (Ev.bind e1 ?_)), c1⟩
   simp only [sIvalOk_eq, Option.bind_some]
   exact ev_ifn c3 (Ev.now _)
 ·exact ⟨(p0, p1, p2, p3, p4, p5, p6, p7, a, c), Ev.step (fun k => by simp only [spec_l4DrawRight.j0]; rfl) (ev_ifn c2 (Ev.now _)), hc⟩
theorem l4DrawRight_ev {b : List Int} {i : Int} (h : Int) (hc : Cu b i) : ∃ r : MR, Ev (fun k => spec_l4DrawRight.f k b i h) r ∧ Cu b r.2.2.2.2.2.2.2.2.1 := by
 unfold spec_l4DrawRight.f
 obtain ⟨x, i1, h1, e1, hx0, hx1, _, _, c1⟩ := l1Below_ok h 3 (by omega) hc
 obtain ⟨y, i2, h2, e2, hy0, hy1, _, _, c2⟩ := l1Below_ok h1 8 (by omega) c1
 simp only [e1, e2, Option.bind_some]
 by_cases d : wrap64 (1 + x) = 3
 ·obtain ⟨z, i3, h3, e3, _, _, _, _, c3⟩ := l1Below_ok h2 16 (by omega) c2
  obtain ⟨s, i4, h4, e4, c4⟩ := l4DrawBody_ev b i3 h3 6 (by omega) (by omega) c3
  obtain ⟨o, i5, h5, e5, c5⟩ := l1Once_ok h4 15 (by omega) c4
  simp only [e3, Option.bind_some]
  by_cases co : o = true
  ·refine ⟨(wrap64 (1 + x), y, 0, 0, 0, 0, z, (⟨#[97, 98, 99, 100, 101, 102, 103, 104, 105, 106, 107, 108, 109, 110, 111, 112, 113, 114, 115, 116, 117, 118, 119, 120]⟩ : ByteArray), i5, h5), ev_if d (Ev.bind e4 ?_), c5⟩
   simp only [e5, Option.bind_some]
   exact ev_if co (Ev.now _)
  ·refine ⟨(wrap64 (1 + x), y, 0, 0, 0, 0, z, s, i5, h5), ev_if d (Ev.bind e4 ?_), c5⟩
   simp only [e5, Option.bind_some]
   exact ev_ifn co (Ev.now _)
 ·obtain ⟨u, i3, h3, e3, _, _, _, _, c3⟩ := l1Below_ok h2 7 (by omega) c2
  obtain ⟨v, i4, h4, e4, _, _, _, _, c4⟩ := l1Below_ok h3 4000 (by omega) c3
  obtain ⟨o, i5, h5, e5, c5⟩ := l1Once_ok h4 12 (by omega) c4
  simp only [e3, e4, e5, Option.bind_some]
  by_cases co : o = true
  ·obtain ⟨p, i6, h6, e6, _, c6⟩ := l1PickInt_ok h5 [0, 127, 128, 16383, 16384, 100000999] (by simp) (by simp) c5
   simp only [e6, Option.bind_some]
   obtain ⟨r, er, cr⟩ := l4DrawRight_j0 i6 h6 (wrap64 (1 + x)) y (Int.tmod (wrap64 ((wrap64 (y + 1)) + u)) 8) p 0 0 0 (⟨#[]⟩ : ByteArray) c6
   exact ⟨r, ev_ifn d (ev_if co er), cr⟩
  ·obtain ⟨r, er, cr⟩ := l4DrawRight_j0 i5 h5 (wrap64 (1 + x)) y (Int.tmod (wrap64 ((wrap64 (y + 1)) + u)) 8) v 0 0 0 (⟨#[]⟩ : ByteArray) c5
   exact ⟨r, ev_ifn d (ev_ifn co er), cr⟩
theorem ex_bind {α β : Type} {f : Nat → Option α} {x : α} (hf : Ev f x) {g : Nat → α → Option β} (h : ∃ r, Ev (fun k => g k x) r) : ∃ r, Ev (fun k => (f k).bind (g k)) r := by
 obtain ⟨r, hr⟩ := h
 exact ⟨r, Ev.bind hf hr⟩
theorem l4DrawMsg_ev {b : List Int} {i : Int} (h : Int) (hc : Cu b i) : ∃ r : MR, Ev (fun k => spec_l4DrawMsg.f k b i h) r := by
 unfold spec_l4DrawMsg.f
 obtain ⟨⟨m0, m1, m2, m3, m4, m5, m6, m7, i0, h0⟩, e0, c0⟩ := l4DrawRight_ev h hc
 simp only at c0
 obtain ⟨x, i1, h1, e1, _, _, _, _, c1⟩ := l1Below_ok h0 25 (by omega) c0
 have j0 : ∀ (a c p0 p1 p2 p3 p4 p5 p6 : Int) (p7 : ByteArray), Ev (fun k => spec_l4DrawMsg.j0 k b a c p0 p1 p2 p3 p4 p5 p6 p7) (p0, p1, p2, p3, p4, p5, p6, p7, a, c) := fun a c p0 p1 p2 p3 p4 p5 p6 p7 => Ev.step (fun k => by simp only [spec_l4DrawMsg.j0]) (Ev.now _)
 refine ex_bind e0 ?_
 simp only [e1, Option.bind_some]
 by_cases d0 : x = 0
 ·obtain ⟨p, i2, h2, e2, _, _⟩ := l1PickInt_ok h1 [0, 4, 3, 1] (by simp) (by simp) c1
  simp only [e2, Option.bind_some]
  exact ⟨_, ev_if d0 (j0 ..)⟩
 ·by_cases d1 : x = 1
  ·obtain ⟨p, i2, h2, e2, _, _⟩ := l1PickInt_ok h1 [-1, 8, m2] (by simp) (by simp) c1
   simp only [e2, Option.bind_some]
   exact ⟨_, ev_ifn d0 (ev_if d1 (j0 ..))⟩
  ·by_cases d2 : x = 2
   ·obtain ⟨p, i2, h2, e2, _, _⟩ := l1PickInt_ok h1 [-1, 8, m1] (by simp) (by simp) c1
    simp only [e2, Option.bind_some]
    exact ⟨_, ev_ifn d0 (ev_ifn d1 (ev_if d2 (j0 ..)))⟩
   ·by_cases d3 : x = 3
    ·obtain ⟨p, i2, h2, e2, _, _⟩ := l1PickInt_ok h1 [-1, 100001000, 1] (by simp) (by simp) c1
     simp only [e2, Option.bind_some]
     exact ⟨_, ev_ifn d0 (ev_ifn d1 (ev_ifn d2 (ev_if d3 (j0 ..))))⟩
    ·by_cases d4 : x = 4
     ·obtain ⟨p, q, i2, h2, e2, _⟩ := l1DrawIval_ev h1 c1
      exact ⟨_, ev_ifn d0 (ev_ifn d1 (ev_ifn d2 (ev_ifn d3 (ev_if d4 (Ev.bind e2 (j0 ..))))))⟩
     ·by_cases d5 : x = 5
      ·obtain ⟨p, i2, h2, e2, _, _⟩ := l1PickInt_ok h1 [-1, 16, 15] (by simp) (by simp) c1
       simp only [e2, Option.bind_some]
       exact ⟨_, ev_ifn d0 (ev_ifn d1 (ev_ifn d2 (ev_ifn d3 (ev_ifn d4 (ev_if d5 (j0 ..))))))⟩
      ·by_cases d6 : x = 6
       ·exact ⟨_, ev_ifn d0 (ev_ifn d1 (ev_ifn d2 (ev_ifn d3 (ev_ifn d4 (ev_ifn d5 (ev_if d6 (j0 ..)))))))⟩
       ·exact ⟨_, ev_ifn d0 (ev_ifn d1 (ev_ifn d2 (ev_ifn d3 (ev_ifn d4 (ev_ifn d5 (ev_ifn d6 (j0 ..)))))))⟩
theorem DrawPack_ev (b : List Int) (hb : b.length ≤ 1048576) : ∃ r, Ev (fun k => spec_DrawPack.f k b) r := by
 unfold spec_DrawPack.f
 obtain ⟨h, hn⟩ := l1New_ev b hb
 obtain ⟨⟨m0, m1, m2, m3, m4, m5, m6, m7, i0, h0⟩, e0⟩ := l4DrawMsg_ev h (cu0 hb)
 exact ⟨_, Ev.bind hn (Ev.bind e0 (Ev.now _))⟩
def bit1i (y : Nat) : Nat := if y % 2 = 1 then ((y ^^^ 7) + 256) / 2 else y / 2
set_option maxRecDepth 100000 in
theorem bit1_inv : ∀ x, x < 256 → bit1i (bit1 x) = x := by decide
theorem bitn_inj (n : Nat) : ∀ x y, x < 256 → y < 256 → bitn n x = bitn n y → x = y := by
 induction n with
 | zero => exact fun x y _ _ h => h
 | succ n ih =>
  intro x y hx hy h
  have h1 := ih _ _ (bit1_lt x hx) (bit1_lt y hy) h
  rw [← bit1_inv x hx, ← bit1_inv y hy, h1]
theorem xor_cancel_l {c x y : Nat} (h : c ^^^ x = c ^^^ y) : x = y := by
 have h2 := congrArg (c ^^^ ·) h
 simpa [← Nat.xor_assoc] using h2
theorem byte8_state {x y : Nat} {c : Int} (hx : x < 256) (hy : y < 256) (hc : 0 ≤ c ∧ c ≤ 255) (h : byte8 x c = byte8 y c) : x = y := by
 have := bitn_inj 8 _ _ (xor_lt x c.toNat hx (by omega)) (xor_lt y c.toNat hy (by omega)) h
 rw [Nat.xor_comm x, Nat.xor_comm y] at this
 exact xor_cancel_l this
theorem byte8_byte {x : Nat} {c d : Int} (hx : x < 256) (hc : 0 ≤ c ∧ c ≤ 255) (hd : 0 ≤ d ∧ d ≤ 255) (h : byte8 x c = byte8 x d) : c = d := by
 have := xor_cancel_l (bitn_inj 8 _ _ (xor_lt x c.toNat hx (by omega)) (xor_lt x d.toNat hx (by omega)) h)
 omega
theorem byte8_lt {x : Nat} {c : Int} (hx : x < 256) (hc : 0 ≤ c ∧ c ≤ 255) : byte8 x c < 256 := by
 unfold byte8
 exact bitn_lt 8 _ (xor_lt x c.toNat hx (by omega))
theorem crc_state (l : List Int) (hl : ∀ c ∈ l, 0 ≤ c ∧ c ≤ 255) : ∀ x y, x < 256 → y < 256 → crc x l = crc y l → x = y := by
 induction l with
 | nil => exact fun x y _ _ h => h
 | cons c l ih =>
  intro x y hx hy h
  have hc := hl c List.mem_cons_self
  rw [crc_cons, crc_cons] at h
  exact byte8_state hx hy hc (ih (fun d hd => hl d (List.mem_cons_of_mem _ hd)) _ _ (byte8_lt hx hc) (byte8_lt hy hc) h)
theorem crc_set (l : List Int) (hl : ∀ c ∈ l, 0 ≤ c ∧ c ≤ 255) : ∀ (x i : Nat) (v : Int), x < 256 → i < l.length → 0 ≤ v ∧ v ≤ 255 → crc x (l.set i v) = crc x l → v = rd l (i : Int) := by
 induction l with
 | nil => intro x i v _ hi; simp at hi
 | cons c l ih =>
  intro x i v hx hi hv h
  have hc := hl c List.mem_cons_self
  have ht : ∀ d ∈ l, 0 ≤ d ∧ d ≤ 255 := fun d hd => hl d (List.mem_cons_of_mem _ hd)
  cases i with
  | zero =>
   rw [List.set_cons_zero, crc_cons, crc_cons] at h
   have := byte8_byte hx hv hc (crc_state l ht _ _ (byte8_lt hx hv) (byte8_lt hx hc) h)
   simpa [rd] using this
  | succ i =>
   rw [List.set_cons_succ, crc_cons, crc_cons] at h
   have := ih ht _ i v (byte8_lt hx hc) (by simpa using hi) hv h
   rw [this]
   simp [rd]
theorem xor_u8 (a b : Nat) (ha : a < 256) (hb : b < 256) : Go.bits .xor .u8 (a : Int) (b : Int) = ((a ^^^ b : Nat) : Int) := by
 have hx : a ^^^ b < 2 ^ 8 := Nat.xor_lt_two_pow (by omega) (by omega)
 have o8 : ∀ n : Nat, n < 256 → (BitVec.ofInt 8 (n : Int)).toNat = n := fun n hn => by
  rw [BitVec.ofInt_natCast, BitVec.toNat_ofNat]
  exact Nat.mod_eq_of_lt hn
 show IntKind.u8.wrap ((BitVec.ofInt 8 (a : Int) ^^^ BitVec.ofInt 8 (b : Int)).toNat : Int) = _
 rw [BitVec.toNat_xor, o8 a ha, o8 b hb]
 simp only [IntKind.wrap, IntKind.signed, IntKind.bits]
 simp
 omega
theorem laws_at_ev (l : List Int) (hu : U8s l) (hl : l.length ≤ 1048576) (a : Int) (h0 : 0 ≤ a) (h1 : a ≤ 1000) : ∃ t, laws_at.f l a = some t ∧ 0 ≤ t ∧ t ≤ 255 := by
 unfold laws_at.f
 by_cases c : a < (l.length : Int)
 ·rw [if_pos c, if_pos h0]
  have := u8s_rd hu a
  rw [w64 (by omega) (by omega)]
  exact ⟨_, rfl, this⟩
 ·rw [if_neg c, w64 (x := a * 7) (by omega) (by omega), w64 (by omega) (by omega), Int.tmod_eq_emod_of_nonneg (by omega)]
  exact ⟨_, rfl, by omega, by omega⟩

theorem FnOneBit (l0 : List Int) (hu : ∀ x ∈ l0, (Lit.int .u8 x).wf = true) (_hm : l0.length ≤ 9223372036854775807) : ∃ k, laws_FnOneBit.f k l0 = some true := by
 apply Ev.rounds
 unfold laws_FnOneBit.f
 simp only [big_eq, Option.bind_some, decide_eq_true_eq]
 by_cases h : (l0.length : Int) > 1048576
 ·exact ev_if h (Ev.now true)
 ·refine ev_ifn h ?_
  obtain ⟨⟨m0, m1, m2, m3, m4, m5, m6, m7⟩, hm⟩ := DrawPack_ev l0 (by omega)
  refine Ev.bind hm (Ev.bind (iPack_ev m0 m1 m2 m3 m4 m5 m6 m7) (Ev.bind (ev2 (fun k => sMsgOk_eq2 k m0 m1 m2 m3 m4 m5 m6 m7)) ?_))
  by_cases ok : msgOk m0 m1 m2 m3 m4 m5 m6 m7 = true
  ·simp only [if_pos ok]
   refine ev_if trivial ?_
   have hlen := packB_len ok
   have hE : 1 ≤ (packE m0 m1 m2 m3 m4 m5 m6 m7).length := by
    unfold packE
    split <;> split <;> simp only [List.length_append, List.length_cons] <;> omega
   have hEu := packE_u8 m0 m1 m2 m3 m4 m5 m6 m7
   have hEb : ∀ c ∈ packE m0 m1 m2 m3 m4 m5 m6 m7, 0 ≤ c ∧ c ≤ 255 := fun c hc => Go.bounds_u8 (hEu c hc)
   have hcl := crc_lt _ hEb 90 (by omega)
   unfold packB at hlen ⊢
   generalize packE m0 m1 m2 m3 m4 m5 m6 m7 = E at *
   rw [show ((crc 90 E : Nat) : Int) % 256 = ((crc 90 E : Nat) : Int) by omega] at hlen ⊢
   have hbl : (E ++ [((crc 90 E : Nat) : Int)]).length = E.length + 1 := by simp
   obtain ⟨t, et, t0, t1⟩ := laws_at_ev l0 hu (by omega) 1 (by omega) (by omega)
   obtain ⟨t', et', t0', t1'⟩ := laws_at_ev l0 hu (by omega) 2 (by omega) (by omega)
   have hd : decide (((E ++ [((crc 90 E : Nat) : Int)]).length : Int) < 2) = false := by
    rw [hbl]
    simp
    omega
   rw [hd]
   refine Ev.step (fun k => by simp only [laws_FnOneBit.j0]; rfl) ?_
   refine ev_ifn (by decide) ?_
   simp only [et, et', Option.bind_some, hbl]
   refine ev_ifn (by omega) ?_
   rw [w64 (x := t * 7) (by omega) (by omega), Int.tmod_eq_emod_of_nonneg (by omega)]
   rw [Int.tmod_eq_emod_of_nonneg (by omega : 0 ≤ t')]
   have hn : (0 : Int) < ((E.length + 1 : Nat) : Int) := by omega
   have hi0 := Int.emod_nonneg (t * 7) (show ((E.length + 1 : Nat) : Int) ≠ 0 by omega)
   have hi1 := Int.emod_lt_of_pos (t * 7) hn
   refine ev_if hi0 (ev_if hi1 (ev_if (by omega) ?_))
   generalize hi : t * 7 % ((E.length + 1 : Nat) : Int) = i at *
   obtain ⟨j, rfl⟩ := Int.eq_ofNat_of_zero_le hi0
   obtain ⟨q, hq⟩ : ∃ q : Nat, t' % 8 = (q : Int) := ⟨(t' % 8).toNat, by omega⟩
   rw [hq]
   have hq8 : q < 8 := by omega
   generalize hB : E ++ [((crc 90 E : Nat) : Int)] = B at *
   have hBu : U8s B := by
    rw [← hB]
    refine u8s_app hEu (fun c hc => ?_)
    rw [List.mem_singleton] at hc
    rw [hc]
    exact u8_of (by omega)
   have hr := u8s_rd hBu (j : Int)
   obtain ⟨a, ha⟩ := Int.eq_ofNat_of_zero_le hr.1
   rw [ha] at hr ⊢
   have hs : shl .u8 1 (q : Int) = ((2 ^ q : Nat) : Int) := by
    have : q = 0 ∨ q = 1 ∨ q = 2 ∨ q = 3 ∨ q = 4 ∨ q = 5 ∨ q = 6 ∨ q = 7 := by omega
    rcases this with h | h | h | h | h | h | h | h <;> subst h <;> rfl
   have h2 : 2 ^ q < 256 ∧ 0 < 2 ^ q := by
    have : q = 0 ∨ q = 1 ∨ q = 2 ∨ q = 3 ∨ q = 4 ∨ q = 5 ∨ q = 6 ∨ q = 7 := by omega
    rcases this with h | h | h | h | h | h | h | h <;> subst h <;> decide
   rw [hs, xor_u8 a (2 ^ q) (by omega) h2.1]
   have hv := xor_lt a (2 ^ q) (by omega) h2.1
   have hne : a ^^^ 2 ^ q ≠ a := by
    intro e
    have := xor_cancel_l (c := a) (x := 2 ^ q) (y := 0) (by simpa using e)
    omega
   generalize a ^^^ 2 ^ q = v at *
   have hvu : (Lit.int .u8 (v : Int)).wf = true := u8_of (by omega)
   have hSu : U8s (B.set j (v : Int)) := by
    intro c hc
    rcases List.mem_or_eq_of_mem_set hc with h | h
    ·exact hBu c h
    ·rw [h]; exact hvu
   have hSl : (B.set j (v : Int)).length = E.length + 1 := by rw [List.length_set, hbl]
   have hjl : j < E.length + 1 := by omega
   have hout : unpack (B.set j (v : Int)) = err 2 := by
    unfold unpack
    rw [hSl, if_neg (by omega), if_neg]
    rw [show E.length + 1 - 1 = E.length from rfl, show ((E.length + 1 : Nat) : Int) - 1 = (E.length : Int) by omega]
    intro hh
    by_cases cj : j < E.length
    ·have e1 : (B.set j (v : Int)).take E.length = E.set j (v : Int) := by
      rw [← hB, List.set_append_left _ _ cj]
      rw [List.take_append_of_le_length (by simp)]
      rw [List.take_of_length_le (by simp)]
     have e2 : rd (B.set j (v : Int)) (E.length : Int) = ((crc 90 E : Nat) : Int) := by
      rw [← hB, List.set_append_left _ _ cj]
      simp [rd]
     rw [e1, e2] at hh
     have e3 := crc_set E hEb 90 j (v : Int) (by omega) cj (by omega) (by omega)
     have e4 : rd B (j : Int) = rd E (j : Int) := by
      rw [← hB, rd_nat _ _ (by simp; omega), rd_nat _ _ cj, List.getElem_append_left cj]
     omega
    ·have ej : j = E.length := by omega
     subst ej
     have e1 : (B.set E.length (v : Int)).take E.length = E := by
      rw [← hB]
      simp
     have e2 : rd (B.set E.length (v : Int)) (E.length : Int) = (v : Int) := by
      rw [← hB]
      simp [rd]
     have e4 : rd B (E.length : Int) = ((crc 90 E : Nat) : Int) := by
      rw [← hB]
      simp [rd]
     rw [e1, e2] at hh
     omega
   have hU := iUnpack_ev (B.set j (v : Int)) hSu (by omega)
   rw [hout] at hU
   exact Ev.bind hU (Ev.now true)
  ·simp only [if_neg ok]
   exact Ev.now true

end Go.Proofs.Ytpnfbekbkeiahaa.Pure
