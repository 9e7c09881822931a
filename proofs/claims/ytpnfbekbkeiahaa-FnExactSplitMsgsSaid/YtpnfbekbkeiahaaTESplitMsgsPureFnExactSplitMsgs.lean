/- The plain half of FnExactSplitMsgs: what the printed functions compute, over numbers and lists alone. No condition. -/
import Derived.Test.YtpnfbekbkeiahaaTESplitMsgsXFnExactSplitMsgsx
import Derived.OpenShut
namespace Go.Proofs.Ytpnfbekbkeiahaa.Pure
open Go.RowKit Go.Proofs.Ytpnfbekbkeiahaa.XFnExactSplitMsgs Go.Proofs.YtpnfbekbkeiahaaW.PrintWords Go.Proofs.YtpnfbekbkeiahaaW.PrintLast Go.Proofs.YtpnfbekbkeiahaaW.PrintMore
set_option linter.unusedVariables false
set_option linter.unusedSimpArgs false
theorem wf64 {x : Int} (h : (Lit.int .i64 x).wf = true) : -9223372036854775808 ≤ x ∧ x ≤ 9223372036854775807 := by
 simp [Lit.wf, IntKind.min, IntKind.max, IntKind.signed, IntKind.bits] at h
 omega
theorem w64 {x : Int} (h1 : -9223372036854775808 ≤ x) (h2 : x ≤ 9223372036854775807) : wrap64 x = x := by
 unfold wrap64
 omega
theorem in_eq (a b c : Int) : impl_in.f a b c = some (decide (b ≤ a ∧ a ≤ c)) := by
 unfold impl_in.f
 by_cases h : b ≤ a <;> simp [h]
theorem l1In_eq (a b c : Int) : spec_l1In.f a b c = some (decide (b ≤ a ∧ a ≤ c)) := by
 unfold spec_l1In.f
 by_cases h : b ≤ a <;> simp [h]
theorem iIvalOk_eq (a b : Int) : impl_IvalOk.f a b = some (decide (-1000000000000 ≤ a ∧ a ≤ b ∧ b ≤ 1000000000000)) := by
 unfold impl_IvalOk.f
 by_cases h : -1000000000000 ≤ a <;> by_cases h2 : a ≤ b <;> simp [h, h2]
theorem sIvalOk_eq (a b : Int) : spec_IvalOk.f a b = some (decide (-1000000000000 ≤ a ∧ a ≤ b ∧ b ≤ 1000000000000)) := by
 unfold spec_IvalOk.f
 simp only [l1In_eq, Option.bind_some, decide_eq_true_eq]
 by_cases h : a ≤ b
 ·rw [if_pos h]
  by_cases h2 : -1000000000000 ≤ a ∧ a ≤ 1000000000000
  ·rw [if_pos h2]
   simp only [Option.some.injEq, decide_eq_decide]
   omega
  ·rw [if_neg h2]
   simp only [Option.some.injEq]
   exact (decide_eq_false (by omega)).symm
 ·rw [if_neg h]
  simp only [Option.some.injEq]
  exact (decide_eq_false (by omega)).symm
theorem eqIval_self (a b : Int) : laws_eqIval.f a b a b = some true := by
 unfold laws_eqIval.f
 simp
/-- All of a list are bytes. -/
def U8s (l : List Int) : Prop := ∀ x ∈ l, (Lit.int .u8 x).wf = true
theorem u8s_rd {l : List Int} (h : U8s l) (i : Int) : 0 ≤ rd l i ∧ rd l i ≤ 255 := by
 unfold rd
 rw [List.getD_eq_getElem?_getD]
 rcases Nat.lt_or_ge i.toNat l.length with hi | hi
 ·rw [List.getElem?_eq_getElem hi]
  exact Go.bounds_u8 (h _ (List.getElem_mem hi))
 ·rw [List.getElem?_eq_none hi]
  decide
theorem rd_nat (l : List Int) (i : Nat) (hi : i < l.length) : rd l (i : Int) = l[i] := by
 unfold rd
 rw [List.getD_eq_getElem?_getD]
 simp [List.getElem?_eq_getElem hi]
theorem take_set_succ (l : List Int) (i : Nat) (h : i < l.length) : (l.take i ++ List.replicate (l.length - i) 0).set i l[i] = l.take (i + 1) ++ List.replicate (l.length - (i + 1)) 0 := by
 have e : l.length - i = (l.length - (i + 1)) + 1 := by omega
 rw [e, List.replicate_succ, List.set_append_right _ _ (List.length_take_le _ _), List.length_take, Nat.min_eq_left (by omega), Nat.sub_self, List.set_cons_zero, List.take_succ_eq_append_getElem h, List.append_assoc]
 rfl
theorem toByteS_l0 (l : List Int) (hl : l.length ≤ 9223372036854775806) (d : Nat) : ∀ i : Nat, i + d = l.length → Ev (fun k => laws_toByteS.l0 k l (l.take i ++ List.replicate (l.length - i) 0) i) l := by
 induction d with
 | zero =>
  intro i hi
  refine Ev.step (fun k => by simp only [laws_toByteS.l0]; rfl) ?_
  simp only [show ¬ ((i : Int) < (l.length : Int)) by omega, if_false]
  rw [List.take_of_length_le (by omega), show l.length - i = 0 by omega]
  simpa using Ev.now l
 | succ d ih =>
  intro i hi
  refine Ev.step (fun k => by simp only [laws_toByteS.l0]; rfl) ?_
  have hlen : (l.take i ++ List.replicate (l.length - i) (0 : Int)).length = l.length := by simp; omega
  rw [hlen]
  simp only [show (i : Int) < (l.length : Int) by omega, show (0 : Int) ≤ (i : Int) by omega, if_true, Int.toNat_natCast]
  rw [rd_nat l i (by omega), take_set_succ l i (by omega), w64 (by omega) (by omega)]
  exact ih (i + 1) (by omega)
theorem toByteS_ev (l : List Int) (hl : l.length ≤ 1048576) : Ev (fun k => laws_toByteS.f k l) l := by
 unfold laws_toByteS.f
 simp only [show (0 : Int) ≤ (l.length : Int) by omega, Int.toNat_natCast, show l.length ≤ 281474976710656 by omega, if_true]
 have := toByteS_l0 l (by omega) l.length 0 (by omega)
 simpa using this
theorem eqByteS_l0 (l : List Int) (hl : l.length ≤ 9223372036854775806) (d : Nat) : ∀ i : Nat, i + d = l.length → Ev (fun k => laws_eqByteS.l0 k l l i) true := by
 induction d with
 | zero =>
  intro i hi
  refine Ev.step (fun k => by simp only [laws_eqByteS.l0]; rfl) ?_
  simp only [show ¬ ((i : Int) < (l.length : Int)) by omega, if_false]
  exact Ev.now true
 | succ d ih =>
  intro i hi
  refine Ev.step (fun k => by simp only [laws_eqByteS.l0]; rfl) ?_
  simp only [show (i : Int) < (l.length : Int) by omega, show (0 : Int) ≤ (i : Int) by omega, if_true]
  rw [w64 (by omega) (by omega)]
  exact ih (i + 1) (by omega)
theorem eqByteS_ev (l : List Int) (hl : l.length ≤ 9223372036854775806) : Ev (fun k => laws_eqByteS.f k l l) true := by
 unfold laws_eqByteS.f
 simp only [if_true]
 exact eqByteS_l0 l hl l.length 0 (by omega)
theorem wrapi64 (n : Int) (h0 : 0 ≤ n) (h1 : n < 9223372036854775808) : IntKind.i64.wrap n = n := by
 rw [IntKind.wrap_i64]
 omega
theorem ofInt_i64 (a : Nat) (ha : a < 18446744073709551616) : (BitVec.ofInt 64 (a : Int)).toNat = a := by
 rw [BitVec.ofInt_natCast, BitVec.toNat_ofNat]
 exact Nat.mod_eq_of_lt ha
theorem xor_nat (a b : Nat) (ha : a < 256) (hb : b < 256) : Go.bits .xor .i64 (a : Int) (b : Int) = ((a ^^^ b : Nat) : Int) := by
 have hx : a ^^^ b < 2 ^ 8 := Nat.xor_lt_two_pow (by omega) (by omega)
 show IntKind.i64.wrap ((BitVec.ofInt 64 (a : Int) ^^^ BitVec.ofInt 64 (b : Int)).toNat : Int) = _
 rw [BitVec.toNat_xor, ofInt_i64 a (by omega), ofInt_i64 b (by omega), wrapi64 _ (by omega) (by omega)]
theorem xor_i64 (a b : Int) (h1 : 0 ≤ a) (h2 : a < 256) (h3 : 0 ≤ b) (h4 : b < 256) : Go.bits .xor .i64 a b = ((a.toNat ^^^ b.toNat : Nat) : Int) := by
 obtain ⟨A, rfl⟩ := Int.eq_ofNat_of_zero_le h1
 obtain ⟨B, rfl⟩ := Int.eq_ofNat_of_zero_le h3
 simpa using xor_nat A B (by omega) (by omega)
theorem and255 (a : Int) (h1 : 0 ≤ a) (h2 : a < 512) : Go.bits .and .i64 a 255 = a % 256 := by
 have h := bits_mask .i64 9 (by decide) (fun n h0 h1 => wrapi64 n h0 (by omega)) 8 (by decide) a h1 (by omega)
 simpa using h
/-- One bit of the check: numbers below 256. -/
def bit1 (x : Nat) : Nat := if 2 * x > 255 then (2 * x) % 256 ^^^ 7 else 2 * x
def bitn : Nat → Nat → Nat
 | 0, x => x
 | n + 1, x => bitn n (bit1 x)
/-- The check of some bytes, from a state on. -/
def byte8 (x : Nat) (c : Int) : Nat := bitn 8 (x ^^^ c.toNat)
def crc (x : Nat) (l : List Int) : Nat := l.foldl byte8 x
theorem crc_nil (x : Nat) : crc x [] = x := List.foldl_nil
theorem crc_cons (x : Nat) (c : Int) (l : List Int) : crc x (c :: l) = crc (byte8 x c) l := List.foldl_cons ..
theorem bit1_lt (x : Nat) (h : x < 256) : bit1 x < 256 := by
 unfold bit1
 split
 ·exact Nat.xor_lt_two_pow (n := 8) (by omega) (by omega)
 ·omega
theorem bitn_lt (n : Nat) : ∀ x, x < 256 → bitn n x < 256 := by
 induction n with
 | zero => exact fun x h => h
 | succ n ih => exact fun x h => ih _ (bit1_lt x h)
theorem xor_lt (x y : Nat) (h : x < 256) (h' : y < 256) : x ^^^ y < 256 := Nat.xor_lt_two_pow (n := 8) (by omega) (by omega)
theorem crc_lt (l : List Int) (hl : ∀ c ∈ l, 0 ≤ c ∧ c ≤ 255) : ∀ x, x < 256 → crc x l < 256 := by
 induction l with
 | nil => exact fun x h => h
 | cons c l ih =>
  intro x h
  have hc := hl c List.mem_cons_self
  have hb : byte8 x c < 256 := by unfold byte8; exact bitn_lt 8 _ (xor_lt x c.toNat h (by omega))
  rw [crc_cons]
  exact ih (fun d hd => hl d (List.mem_cons_of_mem _ hd)) _ hb
theorem iCheck8_bits (r : Option Int) (l : List Int) (n i : Int) (R : Int) (j : Nat) : ∀ (d x : Nat), x < 256 → j = 8 - d → d ≤ 8 → Ev (fun k => impl_Check8.l0 k (bitn d x) l n (wrap64 (i + 1))) R → Ev (fun k => impl_Check8.l1 k x l n i ((8 - d : Nat) : Int)) R := by
 intro d
 induction d generalizing j with
 | zero =>
  intro x hx _ _ h
  refine Ev.step (fun k => by simp only [impl_Check8.l1]; rfl) ?_
  simpa [bitn] using h
 | succ d ih =>
  intro x hx hj hd h
  refine Ev.step (fun k => by simp only [impl_Check8.l1]; rfl) ?_
  have e8 : ((8 - (d + 1) : Nat) : Int) < 8 := by omega
  simp only [e8, if_true]
  have ew : wrap64 (((8 - (d + 1) : Nat) : Int) + 1) = ((8 - d : Nat) : Int) := by rw [w64 (by omega) (by omega)]; omega
  rw [ew, show wrap64 ((x : Int) * 2) = ((2 * x : Nat) : Int) by rw [w64 (by omega) (by omega)]; omega]
  by_cases c : 2 * x > 255
  ·simp only [show ((2 * x : Nat) : Int) > 255 by omega, if_true]
   rw [and255 _ (by omega) (by omega), show ((2 * x : Nat) : Int) % 256 = ((2 * x % 256 : Nat) : Int) by omega, show (7 : Int) = ((7 : Nat) : Int) from rfl, xor_nat _ _ (by omega) (by omega)]
   have eb : 2 * x % 256 ^^^ 7 = bit1 x := by unfold bit1; rw [if_pos c]
   rw [eb]
   exact ih _ (bit1 x) (bit1_lt x hx) rfl (by omega) h
  ·simp only [show ¬ (((2 * x : Nat) : Int) > 255) by omega, if_false]
   have eb : 2 * x = bit1 x := by unfold bit1; rw [if_neg c]
   rw [eb]
   exact ih _ (bit1 x) (bit1_lt x hx) rfl (by omega) h
theorem iCheck8_l0 (l : List Int) (hu : U8s l) (hl : l.length ≤ 9223372036854775806) (d : Nat) : ∀ (i x : Nat), x < 256 → i + d = l.length → Ev (fun k => impl_Check8.l0 k x l (l.length : Int) i) (crc x (l.drop i)) := by
 induction d with
 | zero =>
  intro i x hx hi
  refine Ev.step (fun k => by simp only [impl_Check8.l0]; rfl) ?_
  simp only [show ¬ ((i : Int) < (l.length : Int)) by omega, if_false]
  rw [List.drop_eq_nil_of_le (by omega), crc_nil]
  exact Ev.now _
 | succ d ih =>
  intro i x hx hi
  refine Ev.step (fun k => by simp only [impl_Check8.l0]; rfl) ?_
  simp only [show (i : Int) < (l.length : Int) by omega, show (0 : Int) ≤ (i : Int) by omega, if_true]
  have hb := u8s_rd hu (i : Int)
  rw [w64 (x := rd l i) (by omega) (by omega), xor_i64 _ _ (by omega) (by omega) hb.1 (by omega), Int.toNat_natCast]
  rw [List.drop_eq_getElem_cons (show i < l.length by omega)]
  have hr : rd l (i : Int) = l[i] := rd_nat l i (by omega)
  have hxx := xor_lt x (rd l i).toNat hx (by omega)
  have h0 := iCheck8_bits none l (l.length : Int) (i : Int) (crc (byte8 x (rd l i)) (l.drop (i + 1))) 0 8 (x ^^^ (rd l i).toNat) hxx rfl (by omega) (by
   rw [w64 (by omega) (by omega)]
   have hb8 : bitn 8 (x ^^^ (rd l i).toNat) = byte8 x (rd l i) := by unfold byte8; rfl
   have hbl := bitn_lt 8 _ hxx
   rw [hb8] at hbl ⊢
   exact ih (i + 1) _ hbl (by omega))
  rw [crc_cons, ← hr]
  exact h0
theorem iCheck8_ev (l : List Int) (hu : U8s l) (hl : l.length ≤ 9223372036854775806) : Ev (fun k => impl_Check8.f k l) (crc 90 l) := by
 unfold impl_Check8.f
 have := iCheck8_l0 l hu hl l.length 0 90 (by omega) (by omega)
 simpa using this
theorem sCheck8_bits (l : List Int) (i : Int) (R : Int) (j : Nat) : ∀ (d x : Nat), x < 256 → j = 8 - d → d ≤ 8 → Ev (fun k => spec_Check8.l0 k l (bitn d x) (wrap64 (i + 1))) R → Ev (fun k => spec_Check8.l1 k l x i ((8 - d : Nat) : Int)) R := by
 intro d
 induction d generalizing j with
 | zero =>
  intro x hx _ _ h
  refine Ev.step (fun k => by simp only [spec_Check8.l1]; rfl) ?_
  simpa [bitn] using h
 | succ d ih =>
  intro x hx hj hd h
  refine Ev.step (fun k => by simp only [spec_Check8.l1]; rfl) ?_
  have e8 : ((8 - (d + 1) : Nat) : Int) < 8 := by omega
  simp only [e8, if_true]
  have ew : wrap64 (((8 - (d + 1) : Nat) : Int) + 1) = ((8 - d : Nat) : Int) := by rw [w64 (by omega) (by omega)]; omega
  rw [ew, show wrap64 (2 * (x : Int)) = ((2 * x : Nat) : Int) by rw [w64 (by omega) (by omega)]; omega]
  by_cases c : 2 * x > 255
  ·simp only [show ((2 * x : Nat) : Int) > 255 by omega, if_true]
   rw [Int.tmod_eq_emod_of_nonneg (by omega), show ((2 * x : Nat) : Int) % 256 = ((2 * x % 256 : Nat) : Int) by omega, show (7 : Int) = ((7 : Nat) : Int) from rfl, xor_nat _ _ (by omega) (by omega)]
   have eb : 2 * x % 256 ^^^ 7 = bit1 x := by unfold bit1; rw [if_pos c]
   rw [eb]
   exact ih _ (bit1 x) (bit1_lt x hx) rfl (by omega) h
  ·simp only [show ¬ (((2 * x : Nat) : Int) > 255) by omega, if_false]
   have eb : 2 * x = bit1 x := by unfold bit1; rw [if_neg c]
   rw [eb]
   exact ih _ (bit1 x) (bit1_lt x hx) rfl (by omega) h
theorem sCheck8_l0 (l : List Int) (hu : U8s l) (hl : l.length ≤ 9223372036854775806) (d : Nat) : ∀ (i x : Nat), x < 256 → i + d = l.length → Ev (fun k => spec_Check8.l0 k l x i) (crc x (l.drop i)) := by
 induction d with
 | zero =>
  intro i x hx hi
  refine Ev.step (fun k => by simp only [spec_Check8.l0]; rfl) ?_
  simp only [show ¬ ((i : Int) < (l.length : Int)) by omega, if_false]
  rw [List.drop_eq_nil_of_le (by omega), crc_nil]
  exact Ev.now _
 | succ d ih =>
  intro i x hx hi
  refine Ev.step (fun k => by simp only [spec_Check8.l0]; rfl) ?_
  simp only [show (i : Int) < (l.length : Int) by omega, show (0 : Int) ≤ (i : Int) by omega, if_true]
  have hb := u8s_rd hu (i : Int)
  rw [w64 (x := rd l i) (by omega) (by omega), xor_i64 _ _ (by omega) (by omega) hb.1 (by omega), Int.toNat_natCast]
  rw [List.drop_eq_getElem_cons (show i < l.length by omega)]
  have hr : rd l (i : Int) = l[i] := rd_nat l i (by omega)
  have hxx := xor_lt x (rd l i).toNat hx (by omega)
  have h0 := sCheck8_bits l (i : Int) (crc (byte8 x (rd l i)) (l.drop (i + 1))) 0 8 (x ^^^ (rd l i).toNat) hxx rfl (by omega) (by
   rw [w64 (by omega) (by omega)]
   have hb8 : bitn 8 (x ^^^ (rd l i).toNat) = byte8 x (rd l i) := by unfold byte8; rfl
   have hbl := bitn_lt 8 _ hxx
   rw [hb8] at hbl ⊢
   exact ih (i + 1) _ hbl (by omega))
  rw [crc_cons, ← hr]
  exact h0
theorem sCheck8_ev (l : List Int) (hu : U8s l) (hl : l.length ≤ 9223372036854775806) : Ev (fun k => spec_Check8.f k l) (crc 90 l) := by
 unfold spec_Check8.f
 have := sCheck8_l0 l hu hl l.length 0 90 (by omega) (by omega)
 simpa using this

/-- A number read from bytes: where it stands k bytes in, x read so far. -/
def gnum : List Int → Nat → Int → Option (Int × Nat)
 | [], _, _ => none
 | c :: s, k, x => if k = 9 then none else if c < 128 then (if c = 0 ∧ 0 < k then none else some (x + c % 128 * 128 ^ k, k + 1)) else gnum s (k + 1) (x + c % 128 * 128 ^ k)
def gtup (a : Int) : Option (Int × Nat) → Int × Int × Bool
 | none => (0, 0, false)
 | some (x, n) => (x, a + n, true)
theorem pow_le (k : Nat) (h : k ≤ 8) : (1 : Int) ≤ 128 ^ k ∧ (128 : Int) ^ k ≤ 72057594037927936 := by
 have h1 : (128 : Nat) ^ k ≤ 128 ^ 8 := Nat.pow_le_pow_right (by omega) h
 have h2 : (0 : Int) < 128 ^ k := Int.pow_pos (by omega)
 have h3 : ((128 ^ k : Nat) : Int) = (128 : Int) ^ k := by simp
 refine ⟨by omega, ?_⟩
 rw [← h3]
 have : (128 : Nat) ^ 8 = 72057594037927936 := by decide
 omega
theorem mul_pow (c : Int) (k : Nat) (h : k ≤ 8) (h0 : 0 ≤ c) (h1 : c < 128) : 0 ≤ c * 128 ^ k ∧ c * 128 ^ k ≤ 127 * 128 ^ k := by
 obtain ⟨hp, _⟩ := pow_le k h
 exact ⟨Int.mul_nonneg h0 (by omega), Int.mul_le_mul_of_nonneg_right (by omega) (by omega)⟩
theorem or_comm' (k : IntKind) (a b : Int) : Go.bits .or k a b = Go.bits .or k b a := by
 show k.wrap ((BitVec.ofInt _ a ||| BitVec.ofInt _ b).toNat : Int) = k.wrap ((BitVec.ofInt _ b ||| BitVec.ofInt _ a).toNat : Int)
 rw [BitVec.or_comm]
theorem and127 (c : Int) (h0 : 0 ≤ c) (h1 : c ≤ 255) : Go.bits .and .u8 c 127 = c % 128 := by
 have h := bits_mask .u8 8 (by decide) wraps_u8 7 (by decide) c h0 (by omega)
 simpa using h
theorem two_pow_7 (i : Nat) : (2 : Int) ^ (7 * i) = 128 ^ i := by rw [Int.pow_mul]; rfl
theorem or_shl (x c : Int) (i : Nat) (hi : i ≤ 8) (hx0 : 0 ≤ x) (hx1 : x < 128 ^ i) (h0 : 0 ≤ c) (h1 : c ≤ 255) :
  Go.bits .or .i64 x (shl .i64 (wrap64 (Go.bits .and .u8 c 127)) (7 * (i : Int))) = x + c % 128 * 128 ^ i := by
 obtain ⟨p0, p1⟩ := pow_le i hi
 have hm := mul_pow (c % 128) i hi (by omega) (by omega)
 rw [and127 c h0 h1, w64 (by omega) (by omega)]
 have es : shl .i64 (c % 128) (7 * (i : Int)) = c % 128 * 128 ^ i := by
  unfold shl
  rw [show (7 * (i : Int)).toNat = 7 * i by omega, show min (7 * i) (IntKind.bits .i64) = 7 * i from Nat.min_eq_left (by show 7 * i ≤ 64; omega), two_pow_7, wrapi64 _ (by omega) (by omega)]
 rw [es, or_comm', bits_join .i64 63 (by decide) (fun n h0 h1 => wrapi64 n h0 (by omega)) (7 * i) (c % 128 * 128 ^ i) x hm.1 (by rw [two_pow_7]; exact Int.mul_emod_left _ _) (by omega) hx0 (by rw [two_pow_7]; exact hx1) (by omega), Int.add_comm]
theorem next_lt (x c : Int) (i : Nat) (hx1 : x < 128 ^ i) : x + c % 128 * 128 ^ i < 128 ^ (i + 1) := by
 have h2 : (c % 128) * 128 ^ i ≤ 127 * 128 ^ i := Int.mul_le_mul_of_nonneg_right (by omega) (by have : (0 : Int) < 128 ^ i := Int.pow_pos (by omega); omega)
 rw [Int.pow_succ]
 omega
theorem iGetNum_l0 (s : List Int) (hu : U8s s) (a : Int) (ha0 : 0 ≤ a) (ha1 : a ≤ 4611686018427387904) (hl : s.length ≤ 4611686018427387904) (d : Nat) : ∀ (i : Nat) (x : Int), i + d = s.length → i ≤ 9 → 0 ≤ x → x < 128 ^ i →
  Ev (fun k => impl_GetNum.l0 k a x s (s.length : Int) (i : Int)) (gtup a (gnum (s.drop i) i x)) := by
 induction d with
 | zero =>
  intro i x hi _ _ _
  refine Ev.step (fun k => by simp only [impl_GetNum.l0]; rfl) ?_
  simp only [show ¬ ((i : Int) < (s.length : Int)) by omega, if_false]
  rw [List.drop_eq_nil_of_le (by omega)]
  exact Ev.now _
 | succ d ih =>
  intro i x hi h9 hx0 hx1
  refine Ev.step (fun k => by simp only [impl_GetNum.l0]; rfl) ?_
  simp only [show (i : Int) < (s.length : Int) by omega, show (0 : Int) ≤ (i : Int) by omega, if_true]
  rw [List.drop_eq_getElem_cons (show i < s.length by omega), gnum]
  have hr : rd s (i : Int) = s[i] := rd_nat s i (by omega)
  have hb := u8s_rd hu (i : Int)
  by_cases c9 : i = 9
  ·simp only [show (i : Int) = 9 by omega, c9, if_true]
   exact Ev.now _
  ·simp only [show ¬ ((i : Int) = 9) by omega, c9, if_false]
   rw [w64 (x := 7 * (i : Int)) (by omega) (by omega)]
   simp only [show (0 : Int) ≤ 7 * (i : Int) by omega, if_true]
   rw [or_shl x (rd s i) i (by omega) hx0 hx1 hb.1 hb.2]
   rw [hr] at hb ⊢
   have hm := mul_pow (s[i] % 128) i (by omega) (by omega) (by omega)
   by_cases c1 : s[i] < 128
   ·simp only [c1, if_true]
    have ew : wrap64 (wrap64 (a + (i : Int)) + 1) = a + ((i + 1 : Nat) : Int) := by rw [w64 (x := a + (i : Int)) (by omega) (by omega), w64 (by omega) (by omega)]; omega
    rw [ew]
    by_cases c2 : s[i] = 0
    ·by_cases c3 : 0 < i
     ·simp only [c2, show (i : Int) > 0 by omega, c3, and_self, if_true]
      exact Ev.now _
     ·simp only [c2, show ¬ ((i : Int) > 0) by omega, c3, and_false, if_true, if_false]
      exact Ev.now _
    ·simp only [c2, false_and, if_false]
     exact Ev.now _
   ·simp only [c1, if_false]
    rw [w64 (x := (i : Int) + 1) (by omega) (by omega)]
    exact ih (i + 1) _ (by omega) (by omega) (by omega) (next_lt x _ i hx1)
/-- What GetNum tells. -/
def gres (l : List Int) (a : Int) : Int × Int × Bool := if 0 ≤ a ∧ a < l.length then gtup a (gnum (l.drop a.toNat) 0 0) else (0, 0, false)
theorem iGetNum_ev (l : List Int) (hu : U8s l) (a : Int) (hl : l.length ≤ 4611686018427387904) : Ev (fun k => impl_GetNum.f k l a) (gres l a) := by
 unfold impl_GetNum.f gres
 rw [w64 (x := (l.length : Int) - 1) (by omega) (by omega)]
 simp only [in_eq, Option.bind_some, decide_eq_true_eq]
 by_cases c : 0 ≤ a ∧ a < l.length
 ·simp only [show 0 ≤ a ∧ a ≤ (l.length : Int) - 1 by omega, c, show 0 ≤ a from c.1, show a ≤ (l.length : Int) by omega, and_self, if_true]
  have hs : U8s (l.drop a.toNat) := fun x hx => hu x (List.mem_of_mem_drop hx)
  have := iGetNum_l0 (l.drop a.toNat) hs a c.1 (by omega) (by rw [List.length_drop]; omega) (l.drop a.toNat).length 0 0 (by omega) (by omega) (by omega) (by simp)
  simpa using this
 ·rw [if_neg c]
  simp only [show ¬ (0 ≤ a ∧ a ≤ (l.length : Int) - 1) by omega, if_false]
  exact Ev.now _
theorem sGetNum_l0 (l : List Int) (hu : U8s l) (a : Nat) (hl : l.length ≤ 4611686018427387904) (ha : a < l.length) (d : Nat) : ∀ (i : Nat) (x u : Int), i + d = l.length - a → i ≤ 9 → 0 ≤ x → x < 128 ^ i → (i ≤ 8 → u = 128 ^ i) →
  Ev (fun k => spec_GetNum.l0 k l (a : Int) x u (i : Int)) (gtup a (gnum (l.drop (a + i)) i x)) := by
 induction d with
 | zero =>
  intro i x u hi h9 _ _ _
  refine Ev.step (fun k => by simp only [spec_GetNum.l0]; rfl) ?_
  rw [w64 (x := (a : Int) + (i : Int)) (by omega) (by omega), List.drop_eq_nil_of_le (by omega)]
  by_cases c9 : (i : Int) < 9
  ·simp only [c9, show decide ((a : Int) + (i : Int) < (l.length : Int)) = false from decide_eq_false (by omega), if_true]
   refine Ev.step (fun k => by simp only [spec_GetNum.j2]; rfl) ?_
   simp only [Bool.false_eq_true, if_false]
   exact Ev.now _
  ·simp only [c9, if_false]
   refine Ev.step (fun k => by simp only [spec_GetNum.j2]; rfl) ?_
   simp only [Bool.false_eq_true, if_false]
   exact Ev.now _
 | succ d ih =>
  intro i x u hi h9 hx0 hx1 hu1
  refine Ev.step (fun k => by simp only [spec_GetNum.l0]; rfl) ?_
  rw [w64 (x := (a : Int) + (i : Int)) (by omega) (by omega)]
  have hr : rd l ((a : Int) + (i : Int)) = l[a + i]'(by omega) := by
   have := rd_nat l (a + i) (by omega)
   rwa [Int.natCast_add] at this
  rw [List.drop_eq_getElem_cons (show a + i < l.length by omega), gnum, ← hr]
  clear hr
  have hb := u8s_rd hu ((a : Int) + (i : Int))
  obtain ⟨v, hv⟩ : ∃ v, rd l ((a : Int) + (i : Int)) = v := ⟨_, rfl⟩
  rw [hv] at hb ⊢
  by_cases c9 : i = 9
  ·simp only [show ¬ ((i : Int) < 9) by omega, c9, if_true, if_false]
   refine Ev.step (fun k => by simp only [spec_GetNum.j2]; rfl) ?_
   simp only [Bool.false_eq_true, if_false]
   exact Ev.now _
  ·simp only [show (i : Int) < 9 by omega, show decide ((a : Int) + (i : Int) < (l.length : Int)) = true from decide_eq_true (by omega), if_true]
   refine Ev.step (fun k => by simp only [spec_GetNum.j2]; rfl) ?_
   rw [w64 (x := (a : Int) + (i : Int)) (by omega) (by omega)]
   simp only [show (0 : Int) ≤ (a : Int) + (i : Int) by omega, show (a : Int) + (i : Int) < (l.length : Int) by omega, c9, if_true, if_false]
   have hu' := hu1 (by omega)
   subst hu'
   rw [hv, w64 (x := v) (by omega) (by omega)]
   have hm := mul_pow (v % 128) i (by omega) (by omega) (by omega)
   obtain ⟨p0, p1⟩ := pow_le i (by omega)
   rw [Int.tmod_eq_emod_of_nonneg (by omega), w64 (x := v % 128 * 128 ^ i) (by omega) (by omega), w64 (x := x + v % 128 * 128 ^ i) (by omega) (by omega)]
   by_cases c1 : v < 128
   ·simp only [c1, if_true]
    have ew : wrap64 ((a : Int) + (i : Int) + 1) = (a : Int) + ((i + 1 : Nat) : Int) := by rw [w64 (by omega) (by omega)]; omega
    rw [ew]
    by_cases c2 : v = 0
    ·by_cases c3 : 0 < i
     ·simp only [c2, show (i : Int) > 0 by omega, c3, and_self, if_true]
      exact Ev.now _
     ·simp only [c2, show ¬ ((i : Int) > 0) by omega, c3, and_false, if_true, if_false]
      exact Ev.now _
    ·simp only [c2, false_and, if_false]
     exact Ev.now _
   ·simp only [c1, if_false]
    rw [w64 (x := (i : Int) + 1) (by omega) (by omega)]
    exact ih (i + 1) _ _ (by omega) (by omega) (by omega) (next_lt x _ i hx1) (fun h8 => by
     obtain ⟨q0, q1⟩ := pow_le (i + 1) h8
     rw [Int.pow_succ] at q0 q1 ⊢
     exact w64 (by omega) (by omega))
theorem sGetNum_ev (l : List Int) (hu : U8s l) (a : Int) (hl : l.length ≤ 4611686018427387904) : Ev (fun k => spec_GetNum.f k l a) (if 0 ≤ a ∧ a < l.length then gtup a (gnum (l.drop a.toNat) 0 0) else (0, 0, false)) := by
 unfold spec_GetNum.f
 by_cases c0 : a < 0
 ·rw [if_neg (show ¬ (0 ≤ a ∧ a < (l.length : Int)) by omega)]
  simp only [c0, if_true]
  refine Ev.step (fun k => by simp only [spec_GetNum.j0]; rfl) ?_
  simp only [if_true]
  exact Ev.now _
 ·simp only [c0, if_false]
  by_cases c1 : a ≥ (l.length : Int)
  ·rw [if_neg (show ¬ (0 ≤ a ∧ a < (l.length : Int)) by omega)]
   simp only [show decide (a ≥ (l.length : Int)) = true from decide_eq_true c1]
   refine Ev.step (fun k => by simp only [spec_GetNum.j0]; rfl) ?_
   simp only [if_true]
   exact Ev.now _
  ·rw [if_pos (show 0 ≤ a ∧ a < (l.length : Int) by omega)]
   simp only [show decide (a ≥ (l.length : Int)) = false from decide_eq_false c1]
   refine Ev.step (fun k => by simp only [spec_GetNum.j0]; rfl) ?_
   simp only [Bool.false_eq_true, if_false]
   obtain ⟨b, rfl⟩ := Int.eq_ofNat_of_zero_le (show 0 ≤ a by omega)
   have := sGetNum_l0 l hu b hl (by omega) (l.length - b) 0 0 1 (by omega) (by omega) (by omega) (by simp) (fun _ => by simp)
   simpa using this
/-- When a message is one. -/
def msgOk (kind frm tq nonce lo hi slot : Int) (body : ByteArray) : Bool :=
 decide (0 ≤ frm ∧ frm ≤ 7 ∧ ((kind = 3 ∧ 0 ≤ slot ∧ slot ≤ 15 ∧ body.size ≤ 24 ∧ tq = 0 ∧ nonce = 0 ∧ lo = 0 ∧ hi = 0) ∨
  (kind ≠ 3 ∧ 0 ≤ tq ∧ tq ≤ 7 ∧ frm ≠ tq ∧ 0 ≤ nonce ∧ nonce ≤ 100000999 ∧ slot = 0 ∧ body.size = 0 ∧ ((kind = 1 ∧ lo = 0 ∧ hi = 0) ∨ (kind = 2 ∧ -1000000000000 ≤ lo ∧ lo ≤ hi ∧ hi ≤ 1000000000000)))))
theorem empty_iff (s : ByteArray) : s.toList = [] ↔ s.size = 0 := by
 rw [ByteArray.toList_eq, ← List.length_eq_zero_iff]
 rfl
theorem isNode_eq (a : Int) : impl_isNode.f a = some (decide (0 ≤ a ∧ a ≤ 7)) := by
 unfold impl_isNode.f
 rw [in_eq]
 rfl
theorem iMsgOk_eq (kind frm tq nonce lo hi slot : Int) (body : ByteArray) : impl_MsgOk.f kind frm tq nonce lo hi slot body = some (msgOk kind frm tq nonce lo hi slot body) := by
 unfold impl_MsgOk.f msgOk
 simp only [isNode_eq, in_eq, iIvalOk_eq, Option.bind_some, decide_eq_true_eq, empty_iff]
 by_cases c1 : 0 ≤ frm ∧ frm ≤ 7
 ·rw [if_pos c1]
  by_cases c2 : kind = 3
  ·rw [if_pos c2]
   subst c2
   by_cases c3 : 0 ≤ slot ∧ slot ≤ 15
   ·rw [if_pos c3]
    by_cases c4 : (body.size : Int) ≤ 24
    ·rw [if_pos c4]
     simp only [Option.some.injEq]
     rw [Bool.eq_iff_iff]
     simp
     omega
    ·rw [if_neg c4]
     simp only [Option.some.injEq]
     exact (decide_eq_false (by omega)).symm
   ·rw [if_neg c3]
    simp only [Option.some.injEq]
    exact (decide_eq_false (by omega)).symm
  ·rw [if_neg c2]
   repeat' split
   all_goals (simp only [Option.some.injEq]; try simp only [Bool.and_eq_true, beq_iff_eq] at *)
   all_goals first | exact (decide_eq_false (by omega)).symm | exact (decide_eq_true (by omega)).symm | (rw [decide_eq_decide]; omega)
 ·rw [if_neg c1]
  simp only [Option.some.injEq]
  exact (decide_eq_false (by omega)).symm
theorem l4Node_eq (a : Int) : spec_l4Node.f a = some (decide (0 ≤ a ∧ a ≤ 7)) := by
 unfold spec_l4Node.f
 rw [l1In_eq]
 rfl
theorem empty_beq (s : ByteArray) : (s.toList == ([] : List UInt8)) = decide (s.size = 0) := by
 rw [Bool.eq_iff_iff, beq_iff_eq, decide_eq_true_eq]
 exact empty_iff s
theorem j1_eq (k : Nat) (b : Bool) (kind frm tq nonce lo hi slot : Int) (body : ByteArray) : spec_MsgOk.j1 (k + 1) b kind frm tq nonce lo hi slot body =
  some (decide ((kind = 1 ∧ b = true ∧ lo = 0 ∧ hi = 0) ∨ (kind = 2 ∧ b = true ∧ -1000000000000 ≤ lo ∧ lo ≤ hi ∧ hi ≤ 1000000000000) ∨ (kind = 3 ∧ tq = 0 ∧ nonce = 0 ∧ lo = 0 ∧ hi = 0 ∧ 0 ≤ slot ∧ slot ≤ 15))) := by
 simp only [spec_MsgOk.j1, l1In_eq, sIvalOk_eq, Option.bind_some]
 by_cases k1 : kind = 1
 ·subst k1
  cases b
  ·simp
  ·simp only [if_true, Option.some.injEq]
   rw [Bool.eq_iff_iff]
   simp
 ·by_cases k2 : kind = 2
  ·subst k2
   cases b
   ·simp
   ·simp
  ·by_cases k3 : kind = 3
   ·subst k3
    by_cases c1 : tq = 0
    ·by_cases c2 : nonce = 0
     ·by_cases c3 : lo = 0
      ·by_cases c4 : hi = 0
       ·simp [c1, c2, c3, c4]
       ·simp [c1, c2, c3, c4]
      ·simp [c1, c2, c3]
     ·simp [c1, c2]
    ·simp [c1]
   ·simp [k1, k2, k3]
theorem sMsgOk_eq2 (k : Nat) (kind frm tq nonce lo hi slot : Int) (body : ByteArray) : spec_MsgOk.f (k + 2) kind frm tq nonce lo hi slot body = some (msgOk kind frm tq nonce lo hi slot body) := by
 unfold spec_MsgOk.f msgOk
 simp only [spec_MsgOk.j0, j1_eq, l4Node_eq, l1In_eq, Option.bind_some, decide_eq_true_eq, empty_beq, if_true]
 by_cases c1 : 0 ≤ frm ∧ frm ≤ 7
 ·rw [if_pos c1]
  by_cases c2 : (body.size : Int) > 24
  ·rw [if_pos c2]
   simp only [Option.some.injEq]
   exact (decide_eq_false (by omega)).symm
  ·rw [if_neg c2]
   by_cases c3 : 0 ≤ tq ∧ tq ≤ 7
   ·rw [if_pos c3]
    by_cases c4 : tq = frm
    ·rw [if_pos c4]
     simp only [Option.some.injEq, decide_eq_decide, Bool.false_eq_true, false_and, and_false, false_or]
     omega
    ·rw [if_neg c4]
     by_cases c5 : 0 ≤ nonce ∧ nonce ≤ 100000999
     ·rw [if_pos c5]
      by_cases c6 : slot = 0
      ·rw [if_pos c6]
       simp only [Option.some.injEq, decide_eq_decide]
       omega
      ·rw [if_neg c6]
       simp only [Option.some.injEq, decide_eq_decide, Bool.false_eq_true, false_and, and_false, false_or]
       omega
     ·rw [if_neg c5]
      simp only [Option.some.injEq, decide_eq_decide, Bool.false_eq_true, false_and, and_false, false_or]
      omega
   ·rw [if_neg c3]
    simp only [Option.some.injEq, decide_eq_decide, Bool.false_eq_true, false_and, and_false, false_or]
    omega
 ·rw [if_neg c1]
  simp only [Option.some.injEq]
  exact (decide_eq_false (by omega)).symm
theorem ev_if {α : Type} {c : Prop} [Decidable c] {f g : Nat → Option α} {r : α} (hc : c) (h : Ev f r) : Ev (fun k => if c then f k else g k) r := by
 simp only [hc, if_true]
 exact h
theorem ev_ifn {α : Type} {c : Prop} [Decidable c] {f g : Nat → Option α} {r : α} (hc : ¬ c) (h : Ev g r) : Ev (fun k => if c then f k else g k) r := by
 simp only [hc, if_false]
 exact h
theorem ev2 {α : Type} {g : Nat → Option α} {r : α} (h : ∀ k, g (k + 2) = some r) : Ev g r := ⟨2, fun k hk => by obtain ⟨m, rfl⟩ : ∃ m, k = m + 2 := ⟨k - 2, by omega⟩; exact h m⟩
abbrev MS := S32
theorem rdMs_nat (l : List MS) (i : Nat) (hi : i < l.length) : rd_T32 l (i : Int) = l[i] := by
 unfold rd_T32
 rw [List.getD_eq_getElem?_getD]
 simp [List.getElem?_eq_getElem hi]
theorem eqMsg_self (a b c d e f g : Int) (s : ByteArray) : laws_eqMsg.f a b c d e f g s a b c d e f g s = some true := by
 unfold laws_eqMsg.f
 simp [eqIval_self]
theorem eqMsgS_l0 (l : List MS) (hl : l.length ≤ 9223372036854775806) (d : Nat) : ∀ i : Nat, i + d = l.length → Ev (fun k => laws_eqMsgS.l0 k l l i) true := by
 induction d with
 | zero =>
  intro i hi
  refine Ev.step (fun k => by simp only [laws_eqMsgS.l0]; rfl) ?_
  simp only [show ¬ ((i : Int) < (l.length : Int)) by omega, if_false]
  exact Ev.now true
 | succ d ih =>
  intro i hi
  refine Ev.step (fun k => by simp only [laws_eqMsgS.l0]; rfl) ?_
  simp only [show (i : Int) < (l.length : Int) by omega, show (0 : Int) ≤ (i : Int) by omega, if_true, eqMsg_self, Option.bind_some]
  rw [w64 (by omega) (by omega)]
  exact ih (i + 1) (by omega)
theorem eqMsgS_ev (l : List MS) (hl : l.length ≤ 9223372036854775806) : Ev (fun k => laws_eqMsgS.f k l l) true := by
 unfold laws_eqMsgS.f
 simp only [if_true]
 exact eqMsgS_l0 l hl l.length 0 (by omega)
theorem markText_l0 (n : Nat) (hn : n ≤ 19) : ∀ (x : Int) (s : ByteArray), 0 ≤ x → x < 10 ^ n → x ≤ 9223372036854775807 → s.size + n ≤ 100 → ∃ r, Ev (fun k => laws_markText.l0 k x s) r := by
 induction n with
 | zero =>
  intro x s h0 h1 h2 hs
  have : x = 0 := by
   simp at h1
   omega
  refine ⟨(⟨#[109]⟩ : ByteArray) ++ s, Ev.step (fun k => by simp only [laws_markText.l0]; rfl) ?_⟩
  simp only [show ¬ (x > 0) by omega, if_false, show 1 + s.size ≤ 9223372036854775807 by omega, if_true]
  exact Ev.now _
 | succ n ih =>
  intro x s h0 h1 h2 hs
  by_cases c : x > 0
  ·have hd : Int.tdiv x 10 = x / 10 := Int.tdiv_eq_ediv_of_nonneg h0
   have hx : x / 10 < 10 ^ n := by
    rw [Int.pow_succ] at h1
    omega
   have hsz : (strOfNums [(wrap64 (48 + (Int.tmod x 10))) % 256]).size = 1 := rfl
   obtain ⟨r, hr⟩ := ih (by omega) (x / 10) (strOfNums [(wrap64 (48 + (Int.tmod x 10))) % 256] ++ s) (by omega) hx (by omega) (by rw [ByteArray.size_append, hsz]; omega)
   refine ⟨r, Ev.step (fun k => by simp only [laws_markText.l0]; rfl) ?_⟩
   simp only [c, if_true, Option.bind_some, hsz, show 1 + s.size ≤ 9223372036854775807 by omega]
   rw [hd, w64 (x := x / 10) (by omega) (by omega)]
   exact hr
  ·refine ⟨(⟨#[109]⟩ : ByteArray) ++ s, Ev.step (fun k => by simp only [laws_markText.l0]; rfl) ?_⟩
   simp only [c, if_false, show 1 + s.size ≤ 9223372036854775807 by omega, if_true]
   exact Ev.now _
theorem markText_ev (x : Int) (h2 : x ≤ 9223372036854775807) : ∃ r, Ev (fun k => laws_markText.f k x) r := by
 unfold laws_markText.f
 by_cases c : x ≤ 0
 ·simp only [c, if_true]
  exact ⟨_, Ev.now _⟩
 ·simp only [c, if_false]
  exact markText_l0 19 (by omega) x _ (by omega) (by omega) h2 (by decide)
abbrev Res := Int × Int × Int × Int × Int × Int × Int × ByteArray × Int
def err (c : Int) : Res := (0, 0, 0, 0, 0, 0, 0, (⟨#[]⟩ : ByteArray), c)
/-- A number of a message, and the place behind it. -/
def rdNum (b : List Int) (a : Int) : Option (Int × Int) :=
 if 0 ≤ a ∧ a < b.length then (match gnum (b.drop a.toNat) 0 0 with | none => none | some (x, n) => if x > 4000000000000 then none else some (x, a + n)) else none
theorem gnum_bd (s : List Int) : ∀ (k : Nat) (x y : Int) (n : Nat), 0 ≤ x → gnum s k x = some (y, n) → x ≤ y ∧ k < n ∧ n ≤ k + s.length := by
 induction s with
 | nil => intro k x y n h0 h; simp [gnum] at h
 | cons c s ih =>
  intro k x y n h0 h
  have hp : 0 ≤ c % 128 * 128 ^ k := Int.mul_nonneg (by omega) (Int.le_of_lt (Int.pow_pos (by omega)))
  rw [gnum] at h
  split at h
  ·cases h
  ·split at h
   ·split at h
    ·cases h
    ·injection h with h
     injection h with h1 h2
     simp only [List.length_cons]
     omega
   ·have := ih (k + 1) _ y n (by omega) h
    simp only [List.length_cons]
    omega
theorem rdNum_bd {b : List Int} {a x a' : Int} (h : rdNum b a = some (x, a')) : 0 ≤ a ∧ a < b.length ∧ 0 ≤ x ∧ x ≤ 4000000000000 ∧ a < a' ∧ a' ≤ b.length := by
 unfold rdNum at h
 split at h
 ·next hc =>
  split at h
  ·cases h
  ·next y n hg =>
   split at h
   ·cases h
   ·injection h with h
    injection h with h1 h2
    have := gnum_bd _ 0 0 _ _ (by omega) hg
    rw [List.length_drop] at this
    omega
 ·cases h
def unf (x : Int) : Int := if x % 2 = 1 then -((x + 1) / 2) else x / 2
def endv (x : Int) : Int := if x > 2000000000000 then 1000000000001 else unf x
theorem unf_bd {x : Int} (h : 0 ≤ x ∧ x ≤ 2000000000000) : -1000000000000 ≤ unf x ∧ unf x ≤ 1000000000000 := by unfold unf; split <;> omega
def unpFin (b : List Int) (at_ kind frm tq nonce lo hi slot : Int) (s : ByteArray) : Res :=
 if at_ < b.length then err 6 else if msgOk kind frm tq nonce lo hi slot s = true then (kind, frm, tq, nonce, lo, hi, slot, s, 0) else err 5
/-- What stands behind the kind. -/
def unp (b : List Int) (kind : Int) : Res :=
 match rdNum b 1 with
 | none => err 4
 | some (n0, a0) => match rdNum b a0 with
  | none => err 4
  | some (n1, a1) => match rdNum b a1 with
   | none => err 4
   | some (n2, a2) =>
    if kind = 3 then (if (b.length : Int) - a2 < n2 then err 4 else unpFin b (a2 + n2) kind n0 0 0 0 0 n1 (strOfNums ((b.take (a2 + n2).toNat).drop a2.toNat)))
    else if kind = 2 then (match rdNum b a2 with
     | none => err 4
     | some (n3, a3) => match rdNum b a3 with
      | none => err 4
      | some (n4, a4) => unpFin b a4 kind n0 n1 n2 (endv n3) (endv n4) 0 (⟨#[]⟩ : ByteArray))
    else unpFin b a2 kind n0 n1 n2 0 0 0 (⟨#[]⟩ : ByteArray)
def unpack (l : List Int) : Res :=
 if (l.length : Int) < 2 then err 1
 else if (crc 90 (l.take (l.length - 1)) : Int) = rd l ((l.length : Int) - 1) then (if 1 ≤ rd l 0 ∧ rd l 0 ≤ 3 then unp (l.take (l.length - 1)) (rd l 0) else err 3)
 else err 2
theorem u8s_take {l : List Int} (h : U8s l) (n : Nat) : U8s (l.take n) := fun x hx => h x (List.mem_of_mem_take hx)
theorem rd_take (l : List Int) (n : Nat) (h : 0 < n) : rd (l.take n) 0 = rd l 0 := by
 unfold rd
 rw [List.getD_eq_getElem?_getD, List.getD_eq_getElem?_getD]
 simp [List.getElem?_take, h]
theorem ev_ite {α : Type} {c : Prop} [Decidable c] {f g : Nat → Option α} {x y : α} (h1 : c → Ev f x) (h2 : ¬ c → Ev g y) : Ev (fun k => if c then f k else g k) (if c then x else y) := by
 by_cases h : c
 ·simp only [h, if_true]
  exact h1 h
 ·simp only [h, if_false]
  exact h2 h
theorem sUnfold_eq {x : Int} (h : 0 ≤ x ∧ x ≤ 2000000000000) : spec_Unfold.f x = some (unf x) := by
 unfold spec_Unfold.f unf
 simp only [l1In_eq, Option.bind_some, h, and_self, decide_true, if_true]
 rw [Int.tmod_eq_emod_of_nonneg h.1, Int.tdiv_eq_ediv_of_nonneg h.1, w64 (x := x + 1) (by omega) (by omega), w64 (x := -(x + 1)) (by omega) (by omega), w64 (x := x / 2) (by omega) (by omega)]
 by_cases c : x % 2 = 1
 ·rw [if_pos c, if_pos c]
  have e : Int.tdiv (-(x + 1)) 2 = -((x + 1) / 2) := by
   rw [Int.neg_tdiv, Int.tdiv_eq_ediv_of_nonneg (by omega)]
  rw [e, w64 (by omega) (by omega)]
 ·rw [if_neg c, if_neg c]
theorem sEnd_eq {x : Int} (h : 0 ≤ x) : spec_l4End.f x = some (endv x) := by
 unfold spec_l4End.f endv
 by_cases c : x > 2000000000000
 ·rw [if_pos c, if_pos c]
 ·rw [if_neg c, if_neg c, sUnfold_eq ⟨h, by omega⟩]
  rfl
theorem sNum_ev (b : List Int) (hu : U8s b) (hl : b.length ≤ 1048576) (a : Int) : ∃ y : Int × Int × Bool, Ev (fun k => spec_GetNum.f k b a) y ∧ ((rdNum b a = none ∧ (y.2.2 = false ∨ y.1 > 4000000000000)) ∨ (∃ x a', rdNum b a = some (x, a') ∧ y = (x, a', true) ∧ ¬ x > 4000000000000)) := by
 refine ⟨_, sGetNum_ev b hu a (by omega), ?_⟩
 unfold rdNum
 by_cases c : 0 ≤ a ∧ a < b.length
 ·rw [if_pos c, if_pos c]
  cases hg : gnum (b.drop a.toNat) 0 0 with
  | none => exact .inl ⟨rfl, .inl rfl⟩
  | some p =>
   obtain ⟨x, n⟩ := p
   by_cases c2 : x > 4000000000000
   ·simp only [if_pos c2]
    exact .inl ⟨by trivial, .inr c2⟩
   ·simp only [if_neg c2]
    exact .inr ⟨x, a + n, by trivial, by trivial, c2⟩
 ·rw [if_neg c, if_neg c]
  exact .inl ⟨rfl, .inl rfl⟩
theorem sUnp_none (b : List Int) (hu : U8s b) (hl : b.length ≤ 1048576) (kind many : Int) (nums : List Int) (a i : Int) (hi : i < many) (h : rdNum b a = none) : Ev (fun k => spec_Unpack.l0 k b kind many nums a i 0 0 0 0 0 0 0 (⟨#[]⟩ : ByteArray)) (err 4) := by
 obtain ⟨y, hy, hh⟩ := sNum_ev b hu hl a
 refine Ev.step (fun k => by simp only [spec_Unpack.l0]; rfl) ?_
 refine ev_if hi (Ev.bind hy ?_)
 rcases hh with ⟨_, hh⟩ | ⟨x, a', hs, _⟩
 ·by_cases c : y.2.2 = true
  ·rcases hh with hh | hh
   ·rw [c] at hh
    cases hh
   ·exact ev_if c (ev_if hh (Ev.now _))
  ·exact ev_ifn c (Ev.now _)
 ·rw [h] at hs
  cases hs
theorem sUnp_some (b : List Int) (hu : U8s b) (hl : b.length ≤ 1048576) (kind many : Int) (nums : List Int) (hn : nums.length ≤ 10) (a i : Int) (h0 : 0 ≤ i) (hi : i < many) (hm : many ≤ 5) {x a' : Int} (h : rdNum b a = some (x, a')) {R : Res}
  (hR : Ev (fun k => spec_Unpack.l0 k b kind many (nums ++ [x]) a' (i + 1) 0 0 0 0 0 0 0 (⟨#[]⟩ : ByteArray)) R) : Ev (fun k => spec_Unpack.l0 k b kind many nums a i 0 0 0 0 0 0 0 (⟨#[]⟩ : ByteArray)) R := by
 obtain ⟨y, hy, hh⟩ := sNum_ev b hu hl a
 refine Ev.step (fun k => by simp only [spec_Unpack.l0]; rfl) ?_
 refine ev_if hi (Ev.bind hy ?_)
 rcases hh with ⟨hs, _⟩ | ⟨x2, a2, hs, he, hx⟩
 ·rw [h] at hs
  cases hs
 ·rw [h] at hs
  injection hs with hs
  injection hs with h1 h2
  subst h1
  subst h2
  subst he
  refine ev_if (by trivial) (ev_ifn hx (ev_if (by omega) ?_))
  rw [w64 (x := i + 1) (by omega) (by omega)]
  exact hR
theorem sUnp_j4 (b : List Int) (at_ kind frm tq nonce lo hi slot : Int) (s : ByteArray) : Ev (fun k => spec_Unpack.j4 k b at_ 0 0 0 0 0 0 0 (⟨#[]⟩ : ByteArray) kind frm tq nonce lo hi slot s) (unpFin b at_ kind frm tq nonce lo hi slot s) := by
 unfold unpFin
 refine Ev.step (fun k => by simp only [spec_Unpack.j4]; rfl) ?_
 refine ev_ite (fun _ => Ev.now _) (fun _ => Ev.bind (ev2 (fun k => sMsgOk_eq2 k kind frm tq nonce lo hi slot s)) ?_)
 exact ev_ite (fun _ => Ev.now _) (fun _ => Ev.now _)
theorem sUnp_ev (b : List Int) (hu : U8s b) (hl : b.length ≤ 1048576) (kind : Int) (hk : 1 ≤ kind ∧ kind ≤ 3) : Ev (fun k => spec_Unpack.l0 k b kind (if kind = 2 then 5 else 3) [] 1 0 0 0 0 0 0 0 0 (⟨#[]⟩ : ByteArray)) (unp b kind) := by
 have hm : (if kind = 2 then (5 : Int) else 3) ≤ 5 ∧ 3 ≤ (if kind = 2 then (5 : Int) else 3) := by split <;> omega
 unfold unp
 cases h0 : rdNum b 1 with
 | none => exact sUnp_none b hu hl kind _ [] 1 0 (by omega) h0
 | some p0 =>
  obtain ⟨n0, a0⟩ := p0
  refine sUnp_some b hu hl kind _ [] (by simp) 1 0 (by omega) (by omega) hm.1 h0 ?_
  simp only
  cases h1 : rdNum b a0 with
  | none => exact sUnp_none b hu hl kind _ _ a0 _ (by omega) h1
  | some p1 =>
   obtain ⟨n1, a1⟩ := p1
   refine sUnp_some b hu hl kind _ _ (by simp) a0 _ (by omega) (by omega) hm.1 h1 ?_
   simp only
   cases h2 : rdNum b a1 with
   | none => exact sUnp_none b hu hl kind _ _ a1 _ (by omega) h2
   | some p2 =>
    obtain ⟨n2, a2⟩ := p2
    refine sUnp_some b hu hl kind _ _ (by simp) a1 _ (by omega) (by omega) hm.1 h2 ?_
    have b2 := rdNum_bd h2
    simp only [List.nil_append, List.cons_append]
    by_cases c3 : kind = 3
    ·subst c3
     rw [if_pos rfl]
     refine Ev.step (fun k => by simp only [spec_Unpack.l0]; rfl) ?_
     refine ev_ifn (by decide) (ev_if (by simp) (ev_if (by trivial) (ev_if (by simp) (ev_if (by simp) ?_))))
     have r2 : rd [n0, n1, n2] 2 = n2 := rfl
     have r1 : rd [n0, n1, n2] 1 = n1 := rfl
     have r0 : rd [n0, n1, n2] 0 = n0 := rfl
     rw [r0, r1, r2, w64 (x := (b.length : Int) - a2) (by omega) (by omega)]
     by_cases c4 : (b.length : Int) - a2 < n2
     ·rw [if_pos c4]
      exact ev_if c4 (Ev.now _)
     ·rw [if_neg c4, w64 (x := a2 + n2) (by omega) (by omega)]
      refine ev_ifn c4 (ev_if (by omega) (ev_if (by omega) (ev_if (by omega) ?_)))
      exact sUnp_j4 b (a2 + n2) 3 n0 0 0 0 0 n1 _
    ·rw [if_neg c3]
     by_cases c2 : kind = 2
     ·subst c2
      rw [if_pos rfl]
      simp only [if_true]
      cases h3 : rdNum b a2 with
      | none => exact sUnp_none b hu hl 2 _ _ a2 _ (by omega) h3
      | some p3 =>
       obtain ⟨n3, a3⟩ := p3
       refine sUnp_some b hu hl 2 _ _ (by simp) a2 _ (by omega) (by omega) (by omega) h3 ?_
       have b3 := rdNum_bd h3
       simp only
       cases h4 : rdNum b a3 with
       | none => exact sUnp_none b hu hl 2 _ _ a3 _ (by omega) h4
       | some p4 =>
        obtain ⟨n4, a4⟩ := p4
        refine sUnp_some b hu hl 2 _ _ (by simp) a3 _ (by omega) (by omega) (by omega) h4 ?_
        have b4 := rdNum_bd h4
        simp only [List.nil_append, List.cons_append]
        refine Ev.step (fun k => by simp only [spec_Unpack.l0]; rfl) ?_
        refine ev_ifn (by decide) (ev_if (by simp) (ev_ifn (by decide) (ev_if (by trivial) (ev_if (by simp) (ev_if (by simp) (ev_if (by simp) ?_))))))
        have r4 : rd [n0, n1, n2, n3, n4] 4 = n4 := rfl
        have r3 : rd [n0, n1, n2, n3, n4] 3 = n3 := rfl
        have r2 : rd [n0, n1, n2, n3, n4] 2 = n2 := rfl
        have r1 : rd [n0, n1, n2, n3, n4] 1 = n1 := rfl
        have r0 : rd [n0, n1, n2, n3, n4] 0 = n0 := rfl
        rw [r0, r1, r2, r3, r4]
        simp only [sEnd_eq b3.2.2.1, sEnd_eq b4.2.2.1, Option.bind_some]
        refine ev_if (by simp) ?_
        exact sUnp_j4 b a4 2 n0 n1 n2 _ _ 0 _
     ·rw [if_neg c2]
      simp only [if_neg c2]
      refine Ev.step (fun k => by simp only [spec_Unpack.l0]; rfl) ?_
      refine ev_ifn (by decide) (ev_if (by simp) (ev_ifn c3 (ev_ifn c2 (ev_if (by simp) (ev_if (by simp) ?_)))))
      have r2 : rd [n0, n1, n2] 2 = n2 := rfl
      have r1 : rd [n0, n1, n2] 1 = n1 := rfl
      have r0 : rd [n0, n1, n2] 0 = n0 := rfl
      rw [r0, r1, r2]
      exact sUnp_j4 b a2 kind n0 n1 n2 0 0 0 _
theorem sUnpack_ev (l : List Int) (hu : U8s l) (hl : l.length ≤ 1048576) : Ev (fun k => spec_Unpack.f k l) (unpack l) := by
 unfold spec_Unpack.f unpack
 by_cases c : (l.length : Int) < 2
 ·rw [if_pos c]
  exact ev_if c (Ev.now _)
 ·rw [if_neg c]
  refine ev_ifn c (Ev.step (fun k => by simp only [spec_Unpack.j0]; rfl) ?_)
  have e : ((wrap64 ((l.length : Int) - 1)) : Int).toNat = l.length - 1 := by rw [w64 (by omega) (by omega)]; omega
  rw [e]
  have ew : wrap64 ((l.length : Int) - 1) = (l.length : Int) - 1 := w64 (by omega) (by omega)
  rw [ew]
  have hb := u8s_rd hu ((l.length : Int) - 1)
  have h0 := u8s_rd hu 0
  have ht : (l.take (l.length - 1)).length = l.length - 1 := by rw [List.length_take]; omega
  refine ev_if (by omega) (ev_if (by omega) ?_)
  refine Ev.bind (sCheck8_ev _ (u8s_take hu _) (by omega)) ?_
  rw [w64 (x := rd l ((l.length : Int) - 1)) (by omega) (by omega)]
  refine ev_if (by omega) ?_
  by_cases c2 : (crc 90 (l.take (l.length - 1)) : Int) = rd l ((l.length : Int) - 1)
  ·rw [if_pos c2]
   refine ev_if c2 (Ev.step (fun k => by simp only [spec_Unpack.j1]; rfl) (ev_if (by omega) ?_))
   rw [rd_take l _ (by omega), w64 (x := rd l 0) (by omega) (by omega)]
   simp only [l1In_eq, Option.bind_some, decide_eq_true_eq]
   by_cases c3 : 1 ≤ rd l 0 ∧ rd l 0 ≤ 3
   ·rw [if_pos c3]
    refine ev_if c3 (Ev.step (fun k => by simp only [spec_Unpack.j2]; rfl) ?_)
    simp only [Option.bind_some]
    refine ev_if (by omega) (ev_if (by simp; omega) ?_)
    have hr : rd [0, 3, 5, 3] (rd l 0) = (if rd l 0 = 2 then (5 : Int) else 3) := by
     have : rd l 0 = 1 ∨ rd l 0 = 2 ∨ rd l 0 = 3 := by omega
     rcases this with h | h | h <;> rw [h] <;> rfl
    rw [hr]
    exact sUnp_ev _ (u8s_take hu _) (by omega) _ c3
   ·rw [if_neg c3]
    exact ev_ifn c3 (Ev.now _)
  ·rw [if_neg c2]
   exact ev_ifn c2 (Ev.now _)
theorem iUnfold_eq {x : Int} (h : 0 ≤ x) : impl_Unfold.f x = some (if x > 2000000000000 then 0 else unf x) := by
 unfold impl_Unfold.f unf
 simp only [in_eq, Option.bind_some, decide_eq_true_eq]
 by_cases c2 : x > 2000000000000
 ·rw [if_pos c2, if_neg (by omega)]
 ·rw [if_neg c2, if_pos (by omega)]
  rw [Int.tmod_eq_emod_of_nonneg h, Int.tdiv_eq_ediv_of_nonneg h, w64 (x := x + 1) (by omega) (by omega), w64 (x := -(x + 1)) (by omega) (by omega), w64 (x := x / 2) (by omega) (by omega)]
  by_cases c : x % 2 = 1
  ·rw [if_pos c, if_pos c]
   have e : Int.tdiv (-(x + 1)) 2 = -((x + 1) / 2) := by
    rw [Int.neg_tdiv, Int.tdiv_eq_ediv_of_nonneg (by omega)]
   rw [e, w64 (by omega) (by omega)]
  ·rw [if_neg c, if_neg c]
theorem iNum_bad (b : List Int) (a : Int) : Ev (fun k => impl_wire_num.f k b a true) (0, a, true) := by
 unfold impl_wire_num.f
 exact ev_if (by trivial) (Ev.now _)
theorem iNum_ev (b : List Int) (hu : U8s b) (hl : b.length ≤ 1048576) (a : Int) : Ev (fun k => impl_wire_num.f k b a false) (match rdNum b a with | none => (0, a, true) | some (x, a') => (x, a', false)) := by
 unfold impl_wire_num.f rdNum
 refine ev_ifn (by decide) (Ev.bind (iGetNum_ev b hu a (by omega)) ?_)
 unfold gres
 by_cases c : 0 ≤ a ∧ a < b.length
 ·rw [if_pos c, if_pos c]
  cases hg : gnum (b.drop a.toNat) 0 0 with
  | none => exact ev_ifn (by simp [gtup]) (Ev.now _)
  | some p =>
   obtain ⟨x, n⟩ := p
   by_cases c2 : x > 4000000000000
   ·simp only [if_pos c2]
    exact ev_if (by trivial) (ev_if c2 (Ev.now _))
   ·simp only [if_neg c2]
    exact ev_if (by trivial) (ev_ifn c2 (Ev.now _))
 ·rw [if_neg c, if_neg c]
  exact ev_ifn (by simp) (Ev.now _)
theorem iText_bad (b : List Int) (a n : Int) : impl_wire_text.f b a true n = some ((⟨#[]⟩ : ByteArray), a, true) := by
 unfold impl_wire_text.f
 simp
theorem iText_eq (b : List Int) (hl : b.length ≤ 1048576) (a n : Int) (h0 : 0 ≤ a ∧ a ≤ b.length) (hn : 0 ≤ n ∧ n ≤ 4000000000000) : impl_wire_text.f b a false n = some (if (b.length : Int) - a < n then ((⟨#[]⟩ : ByteArray), a, true) else (strOfNums ((b.take (a + n).toNat).drop a.toNat), a + n, false)) := by
 unfold impl_wire_text.f
 rw [w64 (x := (b.length : Int) - a) (by omega) (by omega), w64 (x := a + n) (by omega) (by omega), w64 (x := a + n - n) (by omega) (by omega), show a + n - n = a by omega]
 simp only [Bool.false_eq_true, if_false]
 by_cases c : (b.length : Int) - a < n
 ·rw [if_pos c, if_pos (show n > (b.length : Int) - a by omega)]
 ·rw [if_neg c, if_neg (show ¬ (n > (b.length : Int) - a) by omega), if_pos h0.1, if_pos (by omega), if_pos (by omega)]
theorem iUnp_bad1 (b : List Int) (last a : Int) (wr : Bool) (kind frm tq nonce lo hi slot : Int) (s : ByteArray) : Ev (fun k => impl_Unpack.j4 k last wr kind frm tq nonce lo hi slot s b a true) (err 4) := by
 refine Ev.step (fun k => by simp only [impl_Unpack.j4]; rfl) ?_
 exact ev_if (by trivial) (Ev.now _)
theorem iUnp_bad0 (b : List Int) (last a : Int) (kind frm tq nonce lo hi slot : Int) (s : ByteArray) : Ev (fun k => impl_Unpack.j3 k last false kind frm tq nonce lo hi slot s b a true) (err 4) := by
 refine Ev.step (fun k => by simp only [impl_Unpack.j3]; rfl) ?_
 by_cases c : kind = 2
 ·refine ev_if c (Ev.bind (iNum_bad b a) (Ev.bind (iNum_bad b a) (ev_ifn (by simp) ?_)))
  simp only [iUnfold_eq (x := 0) (by omega), Option.bind_some]
  exact iUnp_bad1 ..
 ·exact ev_ifn c (iUnp_bad1 ..)
theorem iUnp_fin (b : List Int) (a : Int) (wr : Bool) (kind frm tq nonce lo hi slot : Int) (s : ByteArray) (R : Res) (hR : R = (if a < b.length then err 6 else if wr = true then err 5 else if msgOk kind frm tq nonce lo hi slot s = true then (kind, frm, tq, nonce, lo, hi, slot, s, 0) else err 5)) :
  Ev (fun k => impl_Unpack.j4 k (b.length : Int) wr kind frm tq nonce lo hi slot s b a false) R := by
 rw [hR]
 refine Ev.step (fun k => by simp only [impl_Unpack.j4]; rfl) ?_
 refine ev_ifn (by decide) ?_
 refine ev_ite (fun _ => Ev.now _) (fun _ => ev_ite (fun _ => Ev.now _) (fun _ => ?_))
 simp only [iMsgOk_eq, Option.bind_some]
 exact ev_ite (fun _ => Ev.now _) (fun _ => Ev.now _)
theorem iUnp_fin0 (b : List Int) (a : Int) (kind frm tq nonce lo hi slot : Int) (s : ByteArray) (hk : ¬ kind = 2) : Ev (fun k => impl_Unpack.j3 k (b.length : Int) false kind frm tq nonce lo hi slot s b a false) (unpFin b a kind frm tq nonce lo hi slot s) := by
 refine Ev.step (fun k => by simp only [impl_Unpack.j3]; rfl) ?_
 refine ev_ifn hk (iUnp_fin b a false kind frm tq nonce lo hi slot s _ ?_)
 unfold unpFin
 simp
theorem msgOk_end {kind frm tq nonce x y : Int} (hk : kind = 2) (h : x > 2000000000000 ∨ y > 2000000000000) : msgOk kind frm tq nonce (endv x) (endv y) 0 (⟨#[]⟩ : ByteArray) = false := by
 unfold msgOk
 refine decide_eq_false ?_
 rintro ⟨_, _, hh⟩
 unfold endv at hh
 rcases h with h | h
 ·rw [if_pos h] at hh
  omega
 ·rw [if_pos h] at hh
  omega
theorem iUnp_two (b : List Int) (hu : U8s b) (hl : b.length ≤ 1048576) (a frm tq nonce : Int) : Ev (fun k => impl_Unpack.j3 k (b.length : Int) false 2 frm tq nonce 0 0 0 (⟨#[]⟩ : ByteArray) b a false) (match rdNum b a with
     | none => err 4
     | some (n3, a3) => match rdNum b a3 with
      | none => err 4
      | some (n4, a4) => unpFin b a4 2 frm tq nonce (endv n3) (endv n4) 0 (⟨#[]⟩ : ByteArray)) := by
 refine Ev.step (fun k => by simp only [impl_Unpack.j3]; rfl) ?_
 have e1 := iNum_ev b hu hl a
 refine ev_if (by trivial) (Ev.bind e1 ?_)
 cases h3 : rdNum b a with
 | none =>
  simp only
  refine Ev.bind (iNum_bad b a) (ev_ifn (by simp) ?_)
  simp only [iUnfold_eq (x := 0) (by omega), Option.bind_some]
  exact iUnp_bad1 ..
 | some p3 =>
  obtain ⟨n3, a3⟩ := p3
  have b3 := rdNum_bd h3
  simp only
  have e2 := iNum_ev b hu hl a3
  refine Ev.bind e2 ?_
  cases h4 : rdNum b a3 with
  | none =>
   simp only
   by_cases c : n3 > 2000000000000
   ·refine ev_if c ?_
    simp only [iUnfold_eq b3.2.2.1, iUnfold_eq (x := 0) (by omega), Option.bind_some]
    exact iUnp_bad1 ..
   ·refine ev_ifn c ?_
    simp only [iUnfold_eq b3.2.2.1, iUnfold_eq (x := 0) (by omega), Option.bind_some]
    exact iUnp_bad1 ..
  | some p4 =>
   obtain ⟨n4, a4⟩ := p4
   have b4 := rdNum_bd h4
   simp only
   by_cases c : n3 > 2000000000000
   ·refine ev_if c ?_
    simp only [iUnfold_eq b3.2.2.1, iUnfold_eq b4.2.2.1, Option.bind_some]
    refine iUnp_fin b a4 true _ _ _ _ _ _ _ _ _ ?_
    unfold unpFin
    rw [msgOk_end rfl (.inl c)]
    simp
   ·refine ev_ifn c ?_
    simp only [iUnfold_eq b3.2.2.1, iUnfold_eq b4.2.2.1, Option.bind_some]
    refine iUnp_fin b a4 _ _ _ _ _ _ _ _ _ _ ?_
    by_cases c4 : n4 > 2000000000000
    ·unfold unpFin
     rw [msgOk_end rfl (.inr c4)]
     simp [c4]
    ·unfold unpFin endv
     rw [if_neg c, if_neg c4]
     simp [c4, show ¬ (2000000000000 < n3) by omega]
theorem iUnpack_ev (l : List Int) (hu : U8s l) (hl : l.length ≤ 1048576) : Ev (fun k => impl_Unpack.f k l) (unpack l) := by
 unfold impl_Unpack.f unpack
 by_cases c : (l.length : Int) < 2
 ·rw [if_pos c]
  exact ev_if c (Ev.now _)
 ·rw [if_neg c]
  refine ev_ifn c (Ev.step (fun k => by simp only [impl_Unpack.j0]; rfl) ?_)
  have e : ((wrap64 ((l.length : Int) - 1)) : Int).toNat = l.length - 1 := by rw [w64 (by omega) (by omega)]; omega
  rw [e]
  have ew : wrap64 ((l.length : Int) - 1) = (l.length : Int) - 1 := w64 (by omega) (by omega)
  rw [ew]
  have hb := u8s_rd hu ((l.length : Int) - 1)
  have h0 := u8s_rd hu 0
  have ht : (l.take (l.length - 1)).length = l.length - 1 := by rw [List.length_take]; omega
  have hub := u8s_take hu (l.length - 1)
  refine ev_if (by omega) (ev_if (by omega) (ev_if (by omega) ?_))
  refine Ev.bind (iCheck8_ev _ hub (by omega)) ?_
  rw [w64 (x := rd l ((l.length : Int) - 1)) (by omega) (by omega)]
  by_cases c2 : (crc 90 (l.take (l.length - 1)) : Int) = rd l ((l.length : Int) - 1)
  ·rw [if_pos c2]
   refine ev_if c2.symm (Ev.step (fun k => by simp only [impl_Unpack.j1]; rfl) (ev_if (by omega) ?_))
   rw [w64 (x := rd l 0) (by omega) (by omega)]
   simp only [in_eq, Option.bind_some, decide_eq_true_eq]
   by_cases c3 : 1 ≤ rd l 0 ∧ rd l 0 ≤ 3
   ·rw [if_pos c3]
    refine ev_if c3 (Ev.step (fun k => by simp only [impl_Unpack.j2]; rfl) (ev_if (by omega) (ev_if (by omega) ?_)))
    rw [show ((l.length : Int) - 1).toNat = l.length - 1 by omega]
    generalize rd l 0 = kind at *
    have hlast : (l.length : Int) - 1 = ((l.take (l.length - 1)).length : Int) := by omega
    rw [hlast]
    generalize l.take (l.length - 1) = b at *
    have hbl : b.length ≤ 1048576 := by omega
    clear hb e ew
    refine Ev.bind (iNum_ev b hub hbl 1) ?_
    unfold unp
    cases h0 : rdNum b 1 with
    | none =>
     simp only
     by_cases ck : kind = 3
     ·refine ev_if ck (Ev.bind (iNum_bad b 1) (Ev.bind (iNum_bad b 1) ?_))
      simp only [iText_bad, Option.bind_some]
      exact iUnp_bad0 ..
     ·refine ev_ifn ck (Ev.bind (iNum_bad b 1) (Ev.bind (iNum_bad b 1) ?_))
      exact iUnp_bad0 ..
    | some p0 =>
     obtain ⟨n0, a0⟩ := p0
     simp only
     by_cases ck : kind = 3
     ·subst ck
      refine ev_if (by trivial) (Ev.bind (iNum_ev b hub hbl a0) ?_)
      cases h1 : rdNum b a0 with
      | none =>
       simp only
       refine Ev.bind (iNum_bad b a0) ?_
       simp only [iText_bad, Option.bind_some]
       exact iUnp_bad0 ..
      | some p1 =>
       obtain ⟨n1, a1⟩ := p1
       simp only
       refine Ev.bind (iNum_ev b hub hbl a1) ?_
       cases h2 : rdNum b a1 with
       | none =>
        simp only [iText_bad, Option.bind_some]
        exact iUnp_bad0 ..
       | some p2 =>
        obtain ⟨n2, a2⟩ := p2
        have b2 := rdNum_bd h2
        simp only [iText_eq b hbl a2 n2 (by omega) (by omega), Option.bind_some, if_true]
        by_cases c5 : (b.length : Int) - a2 < n2
        ·rw [if_pos c5, if_pos c5]
         exact iUnp_bad0 ..
        ·rw [if_neg c5, if_neg c5]
         exact iUnp_fin0 b (a2 + n2) 3 n0 0 0 0 0 n1 _ (by omega)
     ·refine ev_ifn ck (Ev.bind (iNum_ev b hub hbl a0) ?_)
      cases h1 : rdNum b a0 with
      | none =>
       simp only
       refine Ev.bind (iNum_bad b a0) ?_
       exact iUnp_bad0 ..
      | some p1 =>
       obtain ⟨n1, a1⟩ := p1
       simp only
       refine Ev.bind (iNum_ev b hub hbl a1) ?_
       cases h2 : rdNum b a1 with
       | none =>
        simp only
        exact iUnp_bad0 ..
       | some p2 =>
        obtain ⟨n2, a2⟩ := p2
        simp only [if_neg ck]
        by_cases ck2 : kind = 2
        ·subst ck2
         simp only [if_true]
         exact iUnp_two b hub hbl a2 n0 n1 n2
        ·simp only [if_neg ck2]
         exact iUnp_fin0 b a2 kind n0 n1 n2 0 0 0 _ ck2
   ·rw [if_neg c3]
    exact ev_ifn c3 (Ev.now _)
  ·rw [if_neg c2]
   exact ev_ifn (fun h => c2 h.symm) (Ev.now _)

/-- A message that was marked with m and what follows. -/
def IsMkM (m : Int) (f : MS) : Prop := ∃ t, Ev (fun k => laws_markText.f k (m + 7)) t ∧ f = ⟨m, m + 1, m + 2, m + 3, ⟨m + 4, m + 5⟩, m + 6, t⟩
def MkM (m : Int) (l : List MS) : Prop := ∀ (i : Nat) (h : i < l.length), IsMkM (m + 8 * i) l[i]
theorem rdMs_set (l : List MS) (i : Nat) (hi : i < l.length) (v : MS) : rd_T32 (l.set i v) (i : Int) = v := by
 rw [rdMs_nat _ i (by rw [List.length_set]; exact hi)]
 simp
theorem markMsgK_l0 (m : Int) (h0 : 0 ≤ m) (d : Nat) : ∀ (i : Nat) (l : List MS), i + d = l.length → m + 8 * (l.length : Int) ≤ 9000000000000000000 → (∀ (j : Nat) (h : j < l.length), j < i → IsMkM (m + 8 * j) l[j]) →
  ∃ r, Ev (fun k => laws_markMsgS.l0 k l (m + 8 * (i : Int)) (i : Int)) (m + 8 * (l.length : Int), r) ∧ MkM m r ∧ r.length = l.length := by
 induction d with
 | zero =>
  intro i l hi hl hm
  refine ⟨l, Ev.step (fun k => by simp only [laws_markMsgS.l0]; rfl) ?_, fun j h => hm j h (by omega), rfl⟩
  simp only [show ¬ ((i : Int) < (l.length : Int)) by omega, if_false]
  have : i = l.length := by omega
  subst this
  exact Ev.now _
 | succ d ih =>
  intro i l hi hl hm
  have hil : i < l.length := by omega
  obtain ⟨x, hx⟩ : ∃ x, m + 8 * (i : Int) = x := ⟨_, rfl⟩
  have w1 : wrap64 (x + 1) = x + 1 := w64 (by omega) (by omega)
  have w2 : wrap64 (x + 1 + 1) = x + 2 := by rw [w64 (by omega) (by omega)]; omega
  have w3 : wrap64 (x + 2 + 1) = x + 3 := by rw [w64 (by omega) (by omega)]; omega
  have w4 : wrap64 (x + 3 + 1) = x + 4 := by rw [w64 (by omega) (by omega)]; omega
  have w5 : wrap64 (x + 4 + 1) = x + 5 := by rw [w64 (by omega) (by omega)]; omega
  have w6 : wrap64 (x + 5 + 1) = x + 6 := by rw [w64 (by omega) (by omega)]; omega
  have w7 : wrap64 (x + 6 + 1) = x + 7 := by rw [w64 (by omega) (by omega)]; omega
  have w8 : wrap64 (x + 7 + 1) = x + 8 := by rw [w64 (by omega) (by omega)]; omega
  obtain ⟨t, ht⟩ := markText_ev (x + 7) (by omega)
  obtain ⟨r, hr, hr2, hr3⟩ := ih (i + 1) (l.set i ⟨x, x + 1, x + 2, x + 3, ⟨x + 4, x + 5⟩, x + 6, t⟩) (by rw [List.length_set]; omega) (by rw [List.length_set]; exact hl) (by
   intro j h hj
   rw [List.length_set] at h
   by_cases c : j = i
   ·subst c
    rw [List.getElem_set_self]
    rw [hx]
    exact ⟨t, ht, rfl⟩
   ·rw [List.getElem_set_ne (by omega)]
    exact hm j h (by omega))
  refine ⟨r, Ev.step (fun k => by simp only [laws_markMsgS.l0]; rfl) ?_, hr2, by rw [hr3, List.length_set]⟩
  rw [List.length_set] at hr
  simp only [show (i : Int) < (l.length : Int) by omega, show (0 : Int) ≤ (i : Int) by omega, if_true, Int.toNat_natCast, hx, w1, w2, w3, w4, w5, w6, w7, w8, Option.bind_some]
  refine Ev.bind ht ?_
  simp only [List.set_set, rdMs_set l i hil, w64 (x := (i : Int) + 1) (by omega) (by omega)]
  rw [show m + 8 * ((i + 1 : Nat) : Int) = x + 8 by omega] at hr
  exact hr
theorem markMsgK_ev (l : List MS) (hl : l.length ≤ 1048576) : ∃ r, Ev (fun k => laws_markMsgS.f k l 1) (1 + 8 * (l.length : Int), r) ∧ MkM 1 r ∧ r.length = l.length := by
 unfold laws_markMsgS.f
 have := markMsgK_l0 1 (by omega) l.length 0 l (by omega) (by omega) (fun j _ h => by omega)
 simpa using this
theorem heldMsg_l0 (m : Int) (h0 : 0 ≤ m) (l : List MS) (hl : m + 8 * (l.length : Int) ≤ 9000000000000000000) (hm : MkM m l) (d : Nat) : ∀ (i : Nat), i + d = l.length → Ev (fun k => laws_heldMsgS.l0 k l (m + 8 * (i : Int)) (i : Int)) (m + 8 * (l.length : Int)) := by
 induction d with
 | zero =>
  intro i hi
  refine Ev.step (fun k => by simp only [laws_heldMsgS.l0]; rfl) ?_
  simp only [show ¬ ((i : Int) < (l.length : Int)) by omega, if_false]
  have : i = l.length := by omega
  subst this
  exact Ev.now _
 | succ d ih =>
  intro i hi
  have hil : i < l.length := by omega
  obtain ⟨t, ht, he⟩ := hm i hil
  obtain ⟨x, hx⟩ : ∃ x, m + 8 * (i : Int) = x := ⟨_, rfl⟩
  rw [hx] at ht he
  have w1 : wrap64 (x + 1) = x + 1 := w64 (by omega) (by omega)
  have w2 : wrap64 (x + 1 + 1) = x + 2 := by rw [w64 (by omega) (by omega)]; omega
  have w3 : wrap64 (x + 2 + 1) = x + 3 := by rw [w64 (by omega) (by omega)]; omega
  have w4 : wrap64 (x + 3 + 1) = x + 4 := by rw [w64 (by omega) (by omega)]; omega
  have w5 : wrap64 (x + 4 + 1) = x + 5 := by rw [w64 (by omega) (by omega)]; omega
  have w6 : wrap64 (x + 5 + 1) = x + 6 := by rw [w64 (by omega) (by omega)]; omega
  have w7 : wrap64 (x + 6 + 1) = x + 7 := by rw [w64 (by omega) (by omega)]; omega
  have w8 : wrap64 (x + 7 + 1) = x + 8 := by rw [w64 (by omega) (by omega)]; omega
  have hr : rd_T32 l (i : Int) = ⟨x, x + 1, x + 2, x + 3, ⟨x + 4, x + 5⟩, x + 6, t⟩ := by rw [rdMs_nat l i hil, he]
  refine Ev.step (fun k => by simp only [laws_heldMsgS.l0]; rfl) ?_
  simp only [show (i : Int) < (l.length : Int) by omega, show (0 : Int) ≤ (i : Int) by omega, if_true, hx, hr, w1, w2, w3, w4, w5, w6, w7, w8]
  refine Ev.bind ht ?_
  simp only [if_true, w64 (x := (i : Int) + 1) (by omega) (by omega)]
  have := ih (i + 1) (by omega)
  rw [show m + 8 * ((i + 1 : Nat) : Int) = x + 8 by omega] at this
  exact this
theorem heldMsg_ev (l : List MS) (hl : l.length ≤ 1048576) (hm : MkM 1 l) : Ev (fun k => laws_heldMsgS.f k l 1) (1 + 8 * (l.length : Int)) := by
 unfold laws_heldMsgS.f
 have := heldMsg_l0 1 (by omega) l (by omega) hm l.length 0 (by omega)
 simpa using this
def msR (r : Res) : MS := ⟨r.1, r.2.1, r.2.2.1, r.2.2.2.1, ⟨r.2.2.2.2.1, r.2.2.2.2.2.1⟩, r.2.2.2.2.2.2.1, r.2.2.2.2.2.2.2.1⟩
/-- The messages that some bytes begin with, from a place on, behind those that were told; the place where the next would begin, and why there is none. -/
def splitF (b : List Int) : Nat → List MS → Int → List MS × Int × Int
 | 0, out, a => (out, a, 0)
 | d + 1, out, a =>
  if (out.length : Int) = 40 then (out, a, 6)
  else match gnum (b.drop a.toNat) 0 0 with
   | none => (out, a, 4)
   | some (x, n) => if x > (b.length : Int) - (a + n) then (out, a, 1)
    else if (unpack ((b.take (a + n + x).toNat).drop (a + n).toNat)).2.2.2.2.2.2.2.2 = 0 then
     (if (b.length : Int) ≤ a + n + x then (out ++ [msR (unpack ((b.take (a + n + x).toNat).drop (a + n).toNat))], a + n + x, 0) else splitF b d (out ++ [msR (unpack ((b.take (a + n + x).toNat).drop (a + n).toNat))]) (a + n + x))
    else (out, a, (unpack ((b.take (a + n + x).toNat).drop (a + n).toNat)).2.2.2.2.2.2.2.2)
theorem splitF_len (b : List Int) (d : Nat) : ∀ (out : List MS) (a : Int), out.length ≤ 40 → (splitF b d out a).1.length ≤ 40 := by
 induction d with
 | zero => exact fun out a h => h
 | succ d ih =>
  intro out a h
  rw [splitF]
  split
  ·exact h
  ·next hn =>
   have h2 : ∀ m : MS, (out ++ [m]).length ≤ 40 := fun m => by rw [List.length_append, List.length_singleton]; omega
   split
   ·exact h
   ·split
    ·exact h
    ·split
     ·split
      ·exact h2 _
      ·exact ih _ _ (h2 _)
     ·exact h
theorem sSplit_l0 (b : List Int) (hu : U8s b) (hl : b.length ≤ 1048576) (d : Nat) : ∀ (out : List MS) (a : Int), out.length ≤ 40 → 0 ≤ a → (a < b.length → (b.length : Int) ≤ a + d) → (a < b.length ∨ d = 0) → Ev (fun k => spec_SplitMsgs.l0 k b out a) (splitF b d out a) := by
 induction d with
 | zero =>
  intro out a ho h0 h1 h2
  refine Ev.step (fun k => by simp only [spec_SplitMsgs.l0]; rfl) ?_
  exact ev_ifn (by omega) (Ev.now _)
 | succ d ih =>
  intro out a ho h0 h1 h2
  have ha : a < b.length := by omega
  have hg := sGetNum_ev b hu a (by omega)
  rw [if_pos ⟨h0, ha⟩] at hg
  refine Ev.step (fun k => by simp only [spec_SplitMsgs.l0]; rfl) ?_
  rw [splitF]
  refine ev_if ha (ev_ite (fun _ => Ev.now _) (fun hn => ?_))
  cases hc : gnum (b.drop a.toNat) 0 0 with
  | none =>
   rw [hc] at hg
   exact Ev.bind hg (ev_ifn (by simp [gtup]) (Ev.now _))
  | some p =>
   obtain ⟨x, n⟩ := p
   have hb := gnum_bd _ _ _ _ _ (by omega) hc
   rw [List.length_drop] at hb
   rw [hc] at hg
   have hg2 : Ev (fun k => spec_GetNum.f k b a) (x, a + (n : Int), true) := hg
   have w1 : wrap64 ((b.length : Int) - (a + n)) = (b.length : Int) - (a + n) := w64 (by omega) (by omega)
   refine Ev.bind hg2 (ev_if (by trivial) ?_)
   by_cases hx : x > (b.length : Int) - (a + n)
   ·simp only [if_pos hx]
    exact ev_if (by show x > wrap64 ((b.length : Int) - (a + n)); rw [w1]; exact hx) (Ev.now _)
   have w2 : wrap64 (a + n + x) = a + n + x := w64 (by omega) (by omega)
   simp only [if_neg hx]
   refine ev_ifn (by show ¬ x > wrap64 ((b.length : Int) - (a + n)); rw [w1]; exact hx) ?_
   refine ev_if (by show 0 ≤ a + (n : Int); omega) (ev_if (by show a + (n : Int) ≤ wrap64 (a + n + x); rw [w2]; omega) (ev_if (by show wrap64 (a + n + x) ≤ (b.length : Int); rw [w2]; omega) ?_))
   have hcu : U8s ((b.take (a + n + x).toNat).drop (a + n).toNat) := fun y hy => hu y (List.mem_of_mem_take (List.mem_of_mem_drop hy))
   have hcl : ((b.take (a + n + x).toNat).drop (a + n).toNat).length ≤ 1048576 := by
    rw [List.length_drop, List.length_take]
    omega
   have hU : Ev (fun k => spec_Unpack.f k ((b.take (wrap64 (a + n + x)).toNat).drop (a + (n : Int)).toNat)) (unpack ((b.take (a + n + x).toNat).drop (a + n).toNat)) := by
    rw [w2]
    exact sUnpack_ev _ hcu hcl
   refine Ev.bind hU ?_
   generalize unpack ((b.take (a + n + x).toNat).drop (a + n).toNat) = r
   by_cases hr : r.2.2.2.2.2.2.2.2 = 0
   ·simp only [if_pos hr]
    have ho2 : (out ++ [msR r]).length ≤ 40 := by rw [List.length_append, List.length_singleton]; omega
    refine ev_if (by omega) ?_
    have hR : ∀ R, Ev (fun k => spec_SplitMsgs.l0 k b (out ++ [msR r]) (a + n + x)) R → Ev (fun k => spec_SplitMsgs.l0 k b (out ++ [msR r]) (wrap64 (a + n + x))) R := fun R h => by rw [w2]; exact h
    refine hR _ ?_
    by_cases c : (b.length : Int) ≤ a + n + x
    ·rw [if_pos c]
     refine Ev.step (fun k => by simp only [spec_SplitMsgs.l0]; rfl) ?_
     exact ev_ifn (by omega) (Ev.now _)
    ·rw [if_neg c]
     exact ih (out ++ [msR r]) (a + n + x) ho2 (by omega) (by omega) (by omega)
   ·simp only [if_neg hr]
    exact Ev.now _
theorem sSplit_ev (b : List Int) (hu : U8s b) (hl : b.length ≤ 1048576) : Ev (fun k => spec_SplitMsgs.f k b) (splitF b b.length [] 0) := by
 unfold spec_SplitMsgs.f
 exact sSplit_l0 b hu hl b.length [] 0 (by simp) (by omega) (by omega) (by omega)
theorem iSplit_l0 (b : List Int) (hu : U8s b) (hl : b.length ≤ 1048576) (d : Nat) : ∀ (out : List MS) (a : Int), out.length ≤ 40 → 0 ≤ a → (a < b.length → (b.length : Int) ≤ a + d) → (a < b.length ∨ d = 0) → Ev (fun k => impl_SplitMsgs.l0 k b out a) (splitF b d out a) := by
 induction d with
 | zero =>
  intro out a ho h0 h1 h2
  refine Ev.step (fun k => by simp only [impl_SplitMsgs.l0]; rfl) ?_
  exact ev_ifn (by omega) (Ev.now _)
 | succ d ih =>
  intro out a ho h0 h1 h2
  have ha : a < b.length := by omega
  have hg := iGetNum_ev b hu a (by omega)
  unfold gres at hg
  rw [if_pos ⟨h0, ha⟩] at hg
  refine Ev.step (fun k => by simp only [impl_SplitMsgs.l0]; rfl) ?_
  rw [splitF]
  refine ev_if ha (ev_ite (fun _ => Ev.now _) (fun hn => ?_))
  cases hc : gnum (b.drop a.toNat) 0 0 with
  | none =>
   rw [hc] at hg
   exact Ev.bind hg (ev_ifn (by simp [gtup]) (Ev.now _))
  | some p =>
   obtain ⟨x, n⟩ := p
   have hb := gnum_bd _ _ _ _ _ (by omega) hc
   rw [List.length_drop] at hb
   rw [hc] at hg
   have hg2 : Ev (fun k => impl_GetNum.f k b a) (x, a + (n : Int), true) := hg
   have w1 : wrap64 ((b.length : Int) - (a + n)) = (b.length : Int) - (a + n) := w64 (by omega) (by omega)
   refine Ev.bind hg2 (ev_if (by trivial) ?_)
   by_cases hx : x > (b.length : Int) - (a + n)
   ·simp only [if_pos hx]
    exact ev_if (by show x > wrap64 ((b.length : Int) - (a + n)); rw [w1]; exact hx) (Ev.now _)
   have w2 : wrap64 (a + n + x) = a + n + x := w64 (by omega) (by omega)
   simp only [if_neg hx]
   refine ev_ifn (by show ¬ x > wrap64 ((b.length : Int) - (a + n)); rw [w1]; exact hx) ?_
   refine ev_if (by show 0 ≤ a + (n : Int); omega) (ev_if (by show a + (n : Int) ≤ wrap64 (a + n + x); rw [w2]; omega) (ev_if (by show wrap64 (a + n + x) ≤ (b.length : Int); rw [w2]; omega) ?_))
   have hcu : U8s ((b.take (a + n + x).toNat).drop (a + n).toNat) := fun y hy => hu y (List.mem_of_mem_take (List.mem_of_mem_drop hy))
   have hcl : ((b.take (a + n + x).toNat).drop (a + n).toNat).length ≤ 1048576 := by
    rw [List.length_drop, List.length_take]
    omega
   have hU : Ev (fun k => impl_Unpack.f k ((b.take (wrap64 (a + n + x)).toNat).drop (a + (n : Int)).toNat)) (unpack ((b.take (a + n + x).toNat).drop (a + n).toNat)) := by
    rw [w2]
    exact iUnpack_ev _ hcu hcl
   refine Ev.bind hU ?_
   generalize unpack ((b.take (a + n + x).toNat).drop (a + n).toNat) = r
   by_cases hr : r.2.2.2.2.2.2.2.2 = 0
   ·simp only [if_pos hr]
    have ho2 : (out ++ [msR r]).length ≤ 40 := by rw [List.length_append, List.length_singleton]; omega
    refine ev_if (by omega) ?_
    have hR : ∀ R, Ev (fun k => impl_SplitMsgs.l0 k b (out ++ [msR r]) (a + n + x)) R → Ev (fun k => impl_SplitMsgs.l0 k b (out ++ [msR r]) (wrap64 (a + n + x))) R := fun R h => by rw [w2]; exact h
    refine hR _ ?_
    by_cases c : (b.length : Int) ≤ a + n + x
    ·rw [if_pos c]
     refine Ev.step (fun k => by simp only [impl_SplitMsgs.l0]; rfl) ?_
     exact ev_ifn (by omega) (Ev.now _)
    ·rw [if_neg c]
     exact ih (out ++ [msR r]) (a + n + x) ho2 (by omega) (by omega) (by omega)
   ·simp only [if_neg hr]
    exact Ev.now _
theorem iSplit_ev (b : List Int) (hu : U8s b) (hl : b.length ≤ 1048576) : Ev (fun k => impl_SplitMsgs.f k b) (splitF b b.length [] 0) := by
 unfold impl_SplitMsgs.f
 exact iSplit_l0 b hu hl b.length [] 0 (by simp) (by omega) (by omega) (by omega)
/-- What marking writes. -/
def mkB (m n : Nat) : List Int := (List.range n).map fun j => ((m + j : Nat) : Int) % 256
theorem mkB_len (m n : Nat) : (mkB m n).length = n := by simp [mkB]
theorem mkB_succ (m n : Nat) : mkB m (n + 1) = mkB m n ++ [((m + n : Nat) : Int) % 256] := by simp [mkB, List.range_succ]
theorem mkB_get (m n i : Nat) (h : i < n) : rd (mkB m n) (i : Int) = ((m + i : Nat) : Int) % 256 := by
 rw [rd_nat _ i (by rw [mkB_len]; exact h)]
 simp [mkB]
theorem markB_l0 (l : List Int) (m : Nat) (hl : m + l.length ≤ 9223372036854775806) (d : Nat) : ∀ i : Nat, i + d = l.length →
  Ev (fun k => laws_markByteS.l0 k (mkB m i ++ l.drop i) ((m + i : Nat) : Int) (i : Int)) (((m + l.length : Nat) : Int), mkB m l.length) := by
 induction d with
 | zero =>
  intro i hi
  refine Ev.step (fun k => by simp only [laws_markByteS.l0]; rfl) ?_
  have hlen : (mkB m i ++ l.drop i).length = l.length := by rw [List.length_append, mkB_len, List.length_drop]; omega
  rw [hlen]
  simp only [show ¬ ((i : Int) < (l.length : Int)) by omega, if_false]
  have : i = l.length := by omega
  subst this
  rw [List.drop_length, List.append_nil]
  exact Ev.now _
 | succ d ih =>
  intro i hi
  refine Ev.step (fun k => by simp only [laws_markByteS.l0]; rfl) ?_
  have hlen : (mkB m i ++ l.drop i).length = l.length := by rw [List.length_append, mkB_len, List.length_drop]; omega
  rw [hlen]
  simp only [show (i : Int) < (l.length : Int) by omega, show (0 : Int) ≤ (i : Int) by omega, if_true, Int.toNat_natCast]
  have e : (mkB m i ++ l.drop i).set i (((m + i : Nat) : Int) % 256) = mkB m (i + 1) ++ l.drop (i + 1) := by
   rw [List.set_append_right _ _ (by rw [mkB_len]; exact Nat.le_refl i), mkB_len, Nat.sub_self, List.drop_eq_getElem_cons (by omega), List.set_cons_zero, mkB_succ, List.append_assoc]
   rfl
  rw [e, w64 (by omega) (by omega), w64 (by omega) (by omega)]
  exact ih (i + 1) (by omega)
theorem markB_ev (l : List Int) (m : Nat) (hl : m + l.length ≤ 9223372036854775806) : Ev (fun k => laws_markByteS.f k l (m : Int)) (((m + l.length : Nat) : Int), mkB m l.length) := by
 unfold laws_markByteS.f
 have := markB_l0 l m hl l.length 0 (by omega)
 simpa [mkB] using this

theorem FnExactSplitMsgs (l0 : List Int) (hu : ∀ x ∈ l0, (Lit.int .u8 x).wf = true) (_hm : l0.length ≤ 9223372036854775807) : ∃ k, laws_FnExactSplitMsgs.f k l0 = some true := by
 apply Ev.rounds
 unfold laws_FnExactSplitMsgs.f
 by_cases h : (l0.length : Int) > 1048576
 ·exact ev_if h (Ev.now true)
 ·refine ev_ifn h ?_
  refine Ev.bind (toByteS_ev l0 (by omega)) (Ev.bind (sSplit_ev l0 hu (by omega)) (Ev.bind (toByteS_ev l0 (by omega)) (Ev.bind (iSplit_ev l0 hu (by omega)) ?_)))
  have hl := splitF_len l0 l0.length [] 0 (by simp)
  have hi := iSplit_ev l0 hu (by omega)
  generalize splitF l0 l0.length [] 0 = r at *
  refine Ev.bind (eqMsgS_ev r.1 (by omega)) (ev_if (by trivial) (ev_if (by trivial) ?_))
  rw [bne_self_eq_false]
  refine Ev.step (fun k => by simp only [laws_FnExactSplitMsgs.j0]; rfl) ?_
  refine ev_ifn (by decide) (Ev.bind (toByteS_ev l0 (by omega)) (Ev.bind (eqByteS_ev l0 (by omega)) (ev_if (by trivial) ?_)))
  refine Ev.bind (markB_ev l0 1 (by omega)) (ev_ifn (by omega) (Ev.bind (eqMsgS_ev r.1 (by omega)) (ev_if (by trivial) (ev_if (by trivial) ?_))))
  rw [bne_self_eq_false]
  refine Ev.step (fun k => by simp only [laws_FnExactSplitMsgs.j1]; rfl) ?_
  obtain ⟨q, hq, hqm, hql⟩ := markMsgK_ev r.1 (by omega)
  have hh := heldMsg_ev q (by omega) hqm
  rw [hql] at hh
  refine ev_ifn (by decide) (Ev.bind hq (Ev.bind hh (ev_ifn (by omega) (ev_if (by trivial) ?_))))
  refine Ev.bind (toByteS_ev l0 (by omega)) (Ev.bind hi (Ev.bind (eqMsgS_ev r.1 (by omega)) (ev_if (by trivial) (ev_if (by trivial) ?_))))
  rw [bne_self_eq_false]
  refine Ev.step (fun k => by simp only [laws_FnExactSplitMsgs.j2]; rfl) ?_
  exact ev_ifn (by decide) (Ev.bind hh (ev_ifn (by omega) (ev_if (by trivial) (Ev.now true))))

end Go.Proofs.Ytpnfbekbkeiahaa.Pure
