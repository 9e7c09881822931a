/- The plain half of FnExactPack: what the printed functions compute, over numbers and lists alone. No condition. -/
import Derived.Test.YtpnfbekbkeiahaaXFnExactPackx
import Derived.OpenShut
namespace Go.Proofs.Ytpnfbekbkeiahaa.Pure
open Go.RowKit Go.Proofs.Ytpnfbekbkeiahaa.XFnExactPack Go.Proofs.YtpnfbekbkeiahaaW.PrintWords Go.Proofs.YtpnfbekbkeiahaaW.PrintLast Go.Proofs.YtpnfbekbkeiahaaW.PrintMore
set_option linter.unusedVariables false
set_option linter.unusedSimpArgs false
theorem wf64 {x : Int} (h : (Lit.int .i64 x).wf = true) : -9223372036854775808 ≤ x ∧ x ≤ 9223372036854775807 := by
  simp [Lit.wf, IntKind.min, IntKind.max, IntKind.signed, IntKind.bits] at h
  omega
theorem w64 {x : Int} (h1 : -9223372036854775808 ≤ x) (h2 : x ≤ 9223372036854775807) : wrap64 x = x := by
  unfold wrap64
  omega
theorem in_eq (a b c : Int) : impl_in.f a b c = some (decide (b ≤ a ∧ a ≤ c)) := by
  unfold impl_in.f
  by_cases h : b ≤ a <;> simp [h]
theorem l1In_eq (a b c : Int) : spec_l1In.f a b c = some (decide (b ≤ a ∧ a ≤ c)) := by
  unfold spec_l1In.f
  by_cases h : b ≤ a <;> simp [h]
theorem iIvalOk_eq (a b : Int) : impl_IvalOk.f a b = some (decide (-1000000000000 ≤ a ∧ a ≤ b ∧ b ≤ 1000000000000)) := by
  unfold impl_IvalOk.f
  by_cases h : -1000000000000 ≤ a <;> by_cases h2 : a ≤ b <;> simp [h, h2]
theorem sIvalOk_eq (a b : Int) : spec_IvalOk.f a b = some (decide (-1000000000000 ≤ a ∧ a ≤ b ∧ b ≤ 1000000000000)) := by
  unfold spec_IvalOk.f
  simp only [l1In_eq, Option.bind_some, decide_eq_true_eq]
  by_cases h : a ≤ b
  · rw [if_pos h]
    by_cases h2 : -1000000000000 ≤ a ∧ a ≤ 1000000000000
    · rw [if_pos h2]
      simp only [Option.some.injEq, decide_eq_decide]
      omega
    · rw [if_neg h2]
      simp only [Option.some.injEq]
      exact (decide_eq_false (by omega)).symm
  · rw [if_neg h]
    simp only [Option.some.injEq]
    exact (decide_eq_false (by omega)).symm
/-- All of a list are bytes. -/
def U8s (l : List Int) : Prop := ∀ x ∈ l, (Lit.int .u8 x).wf = true
theorem u8s_rd {l : List Int} (h : U8s l) (i : Int) : 0 ≤ rd l i ∧ rd l i ≤ 255 := by
  unfold rd
  rw [List.getD_eq_getElem?_getD]
  rcases Nat.lt_or_ge i.toNat l.length with hi | hi
  · rw [List.getElem?_eq_getElem hi]
    exact Go.bounds_u8 (h _ (List.getElem_mem hi))
  · rw [List.getElem?_eq_none hi]
    decide
theorem rd_nat (l : List Int) (i : Nat) (hi : i < l.length) : rd l (i : Int) = l[i] := by
  unfold rd
  rw [List.getD_eq_getElem?_getD]
  simp [List.getElem?_eq_getElem hi]
theorem eqByteS_l0 (l : List Int) (hl : l.length ≤ 9223372036854775806) (d : Nat) : ∀ i : Nat, i + d = l.length → Ev (fun k => laws_eqByteS.l0 k l l i) true := by
  induction d with
  | zero =>
    intro i hi
    refine Ev.step (fun k => by simp only [laws_eqByteS.l0]; rfl) ?_
    simp only [show ¬ ((i : Int) < (l.length : Int)) by omega, if_false]
    exact Ev.now true
  | succ d ih =>
    intro i hi
    refine Ev.step (fun k => by simp only [laws_eqByteS.l0]; rfl) ?_
    simp only [show (i : Int) < (l.length : Int) by omega, show (0 : Int) ≤ (i : Int) by omega, if_true]
    rw [w64 (by omega) (by omega)]
    exact ih (i + 1) (by omega)
theorem eqByteS_ev (l : List Int) (hl : l.length ≤ 9223372036854775806) : Ev (fun k => laws_eqByteS.f k l l) true := by
  unfold laws_eqByteS.f
  simp only [if_true]
  exact eqByteS_l0 l hl l.length 0 (by omega)
theorem wrapi64 (n : Int) (h0 : 0 ≤ n) (h1 : n < 9223372036854775808) : IntKind.i64.wrap n = n := by
  rw [IntKind.wrap_i64]
  omega
theorem ofInt_i64 (a : Nat) (ha : a < 18446744073709551616) : (BitVec.ofInt 64 (a : Int)).toNat = a := by
  rw [BitVec.ofInt_natCast, BitVec.toNat_ofNat]
  exact Nat.mod_eq_of_lt ha
theorem xor_nat (a b : Nat) (ha : a < 256) (hb : b < 256) : Go.bits .xor .i64 (a : Int) (b : Int) = ((a ^^^ b : Nat) : Int) := by
  have hx : a ^^^ b < 2 ^ 8 := Nat.xor_lt_two_pow (by omega) (by omega)
  show IntKind.i64.wrap ((BitVec.ofInt 64 (a : Int) ^^^ BitVec.ofInt 64 (b : Int)).toNat : Int) = _
  rw [BitVec.toNat_xor, ofInt_i64 a (by omega), ofInt_i64 b (by omega), wrapi64 _ (by omega) (by omega)]
theorem xor_i64 (a b : Int) (h1 : 0 ≤ a) (h2 : a < 256) (h3 : 0 ≤ b) (h4 : b < 256) : Go.bits .xor .i64 a b = ((a.toNat ^^^ b.toNat : Nat) : Int) := by
  obtain ⟨A, rfl⟩ := Int.eq_ofNat_of_zero_le h1
  obtain ⟨B, rfl⟩ := Int.eq_ofNat_of_zero_le h3
  simpa using xor_nat A B (by omega) (by omega)
theorem and255 (a : Int) (h1 : 0 ≤ a) (h2 : a < 512) : Go.bits .and .i64 a 255 = a % 256 := by
  have h := bits_mask .i64 9 (by decide) (fun n h0 h1 => wrapi64 n h0 (by omega)) 8 (by decide) a h1 (by omega)
  simpa using h
/-- One bit of the check: numbers below 256. -/
def bit1 (x : Nat) : Nat := if 2 * x > 255 then (2 * x) % 256 ^^^ 7 else 2 * x
def bitn : Nat → Nat → Nat
  | 0, x => x
  | n + 1, x => bitn n (bit1 x)
/-- The check of some bytes, from a state on. -/
def byte8 (x : Nat) (c : Int) : Nat := bitn 8 (x ^^^ c.toNat)
def crc (x : Nat) (l : List Int) : Nat := l.foldl byte8 x
theorem crc_nil (x : Nat) : crc x [] = x := List.foldl_nil
theorem crc_cons (x : Nat) (c : Int) (l : List Int) : crc x (c :: l) = crc (byte8 x c) l := List.foldl_cons ..
theorem bit1_lt (x : Nat) (h : x < 256) : bit1 x < 256 := by
  unfold bit1
  split
  · exact Nat.xor_lt_two_pow (n := 8) (by omega) (by omega)
  · omega
theorem bitn_lt (n : Nat) : ∀ x, x < 256 → bitn n x < 256 := by
  induction n with
  | zero => exact fun x h => h
  | succ n ih => exact fun x h => ih _ (bit1_lt x h)
theorem xor_lt (x y : Nat) (h : x < 256) (h' : y < 256) : x ^^^ y < 256 := Nat.xor_lt_two_pow (n := 8) (by omega) (by omega)
theorem crc_lt (l : List Int) (hl : ∀ c ∈ l, 0 ≤ c ∧ c ≤ 255) : ∀ x, x < 256 → crc x l < 256 := by
  induction l with
  | nil => exact fun x h => h
  | cons c l ih =>
    intro x h
    have hc := hl c List.mem_cons_self
    have hb : byte8 x c < 256 := by unfold byte8; exact bitn_lt 8 _ (xor_lt x c.toNat h (by omega))
    rw [crc_cons]
    exact ih (fun d hd => hl d (List.mem_cons_of_mem _ hd)) _ hb
theorem iCheck8_bits (r : Option Int) (l : List Int) (n i : Int) (R : Int) (j : Nat) : ∀ (d x : Nat), x < 256 → j = 8 - d → d ≤ 8 → Ev (fun k => impl_Check8.l0 k (bitn d x) l n (wrap64 (i + 1))) R → Ev (fun k => impl_Check8.l1 k x l n i ((8 - d : Nat) : Int)) R := by
  intro d
  induction d generalizing j with
  | zero =>
    intro x hx _ _ h
    refine Ev.step (fun k => by simp only [impl_Check8.l1]; rfl) ?_
    simpa [bitn] using h
  | succ d ih =>
    intro x hx hj hd h
    refine Ev.step (fun k => by simp only [impl_Check8.l1]; rfl) ?_
    have e8 : ((8 - (d + 1) : Nat) : Int) < 8 := by omega
    simp only [e8, if_true]
    have ew : wrap64 (((8 - (d + 1) : Nat) : Int) + 1) = ((8 - d : Nat) : Int) := by rw [w64 (by omega) (by omega)]; omega
    rw [ew, show wrap64 ((x : Int) * 2) = ((2 * x : Nat) : Int) by rw [w64 (by omega) (by omega)]; omega]
    by_cases c : 2 * x > 255
    · simp only [show ((2 * x : Nat) : Int) > 255 by omega, if_true]
      rw [and255 _ (by omega) (by omega), show ((2 * x : Nat) : Int) % 256 = ((2 * x % 256 : Nat) : Int) by omega, show (7 : Int) = ((7 : Nat) : Int) from rfl, xor_nat _ _ (by omega) (by omega)]
      have eb : 2 * x % 256 ^^^ 7 = bit1 x := by unfold bit1; rw [if_pos c]
      rw [eb]
      exact ih _ (bit1 x) (bit1_lt x hx) rfl (by omega) h
    · simp only [show ¬ (((2 * x : Nat) : Int) > 255) by omega, if_false]
      have eb : 2 * x = bit1 x := by unfold bit1; rw [if_neg c]
      rw [eb]
      exact ih _ (bit1 x) (bit1_lt x hx) rfl (by omega) h
theorem iCheck8_l0 (l : List Int) (hu : U8s l) (hl : l.length ≤ 9223372036854775806) (d : Nat) : ∀ (i x : Nat), x < 256 → i + d = l.length → Ev (fun k => impl_Check8.l0 k x l (l.length : Int) i) (crc x (l.drop i)) := by
  induction d with
  | zero =>
    intro i x hx hi
    refine Ev.step (fun k => by simp only [impl_Check8.l0]; rfl) ?_
    simp only [show ¬ ((i : Int) < (l.length : Int)) by omega, if_false]
    rw [List.drop_eq_nil_of_le (by omega), crc_nil]
    exact Ev.now _
  | succ d ih =>
    intro i x hx hi
    refine Ev.step (fun k => by simp only [impl_Check8.l0]; rfl) ?_
    simp only [show (i : Int) < (l.length : Int) by omega, show (0 : Int) ≤ (i : Int) by omega, if_true]
    have hb := u8s_rd hu (i : Int)
    rw [w64 (x := rd l i) (by omega) (by omega), xor_i64 _ _ (by omega) (by omega) hb.1 (by omega), Int.toNat_natCast]
    rw [List.drop_eq_getElem_cons (show i < l.length by omega)]
    have hr : rd l (i : Int) = l[i] := rd_nat l i (by omega)
    have hxx := xor_lt x (rd l i).toNat hx (by omega)
    have h0 := iCheck8_bits none l (l.length : Int) (i : Int) (crc (byte8 x (rd l i)) (l.drop (i + 1))) 0 8 (x ^^^ (rd l i).toNat) hxx rfl (by omega) (by
      rw [w64 (by omega) (by omega)]
      have hb8 : bitn 8 (x ^^^ (rd l i).toNat) = byte8 x (rd l i) := by unfold byte8; rfl
      have hbl := bitn_lt 8 _ hxx
      rw [hb8] at hbl ⊢
      exact ih (i + 1) _ hbl (by omega))
    rw [crc_cons, ← hr]
    exact h0
theorem iCheck8_ev (l : List Int) (hu : U8s l) (hl : l.length ≤ 9223372036854775806) : Ev (fun k => impl_Check8.f k l) (crc 90 l) := by
  unfold impl_Check8.f
  have := iCheck8_l0 l hu hl l.length 0 90 (by omega) (by omega)
  simpa using this
theorem sCheck8_bits (l : List Int) (i : Int) (R : Int) (j : Nat) : ∀ (d x : Nat), x < 256 → j = 8 - d → d ≤ 8 → Ev (fun k => spec_Check8.l0 k l (bitn d x) (wrap64 (i + 1))) R → Ev (fun k => spec_Check8.l1 k l x i ((8 - d : Nat) : Int)) R := by
  intro d
  induction d generalizing j with
  | zero =>
    intro x hx _ _ h
    refine Ev.step (fun k => by simp only [spec_Check8.l1]; rfl) ?_
    simpa [bitn] using h
  | succ d ih =>
    intro x hx hj hd h
    refine Ev.step (fun k => by simp only [spec_Check8.l1]; rfl) ?_
    have e8 : ((8 - (d + 1) : Nat) : Int) < 8 := by omega
    simp only [e8, if_true]
    have ew : wrap64 (((8 - (d + 1) : Nat) : Int) + 1) = ((8 - d : Nat) : Int) := by rw [w64 (by omega) (by omega)]; omega
    rw [ew, show wrap64 (2 * (x : Int)) = ((2 * x : Nat) : Int) by rw [w64 (by omega) (by omega)]; omega]
    by_cases c : 2 * x > 255
    · simp only [show ((2 * x : Nat) : Int) > 255 by omega, if_true]
      rw [Int.tmod_eq_emod_of_nonneg (by omega), show ((2 * x : Nat) : Int) % 256 = ((2 * x % 256 : Nat) : Int) by omega, show (7 : Int) = ((7 : Nat) : Int) from rfl, xor_nat _ _ (by omega) (by omega)]
      have eb : 2 * x % 256 ^^^ 7 = bit1 x := by unfold bit1; rw [if_pos c]
      rw [eb]
      exact ih _ (bit1 x) (bit1_lt x hx) rfl (by omega) h
    · simp only [show ¬ (((2 * x : Nat) : Int) > 255) by omega, if_false]
      have eb : 2 * x = bit1 x := by unfold bit1; rw [if_neg c]
      rw [eb]
      exact ih _ (bit1 x) (bit1_lt x hx) rfl (by omega) h
theorem sCheck8_l0 (l : List Int) (hu : U8s l) (hl : l.length ≤ 9223372036854775806) (d : Nat) : ∀ (i x : Nat), x < 256 → i + d = l.length → Ev (fun k => spec_Check8.l0 k l x i) (crc x (l.drop i)) := by
  induction d with
  | zero =>
    intro i x hx hi
    refine Ev.step (fun k => by simp only [spec_Check8.l0]; rfl) ?_
    simp only [show ¬ ((i : Int) < (l.length : Int)) by omega, if_false]
    rw [List.drop_eq_nil_of_le (by omega), crc_nil]
    exact Ev.now _
  | succ d ih =>
    intro i x hx hi
    refine Ev.step (fun k => by simp only [spec_Check8.l0]; rfl) ?_
    simp only [show (i : Int) < (l.length : Int) by omega, show (0 : Int) ≤ (i : Int) by omega, if_true]
    have hb := u8s_rd hu (i : Int)
    rw [w64 (x := rd l i) (by omega) (by omega), xor_i64 _ _ (by omega) (by omega) hb.1 (by omega), Int.toNat_natCast]
    rw [List.drop_eq_getElem_cons (show i < l.length by omega)]
    have hr : rd l (i : Int) = l[i] := rd_nat l i (by omega)
    have hxx := xor_lt x (rd l i).toNat hx (by omega)
    have h0 := sCheck8_bits l (i : Int) (crc (byte8 x (rd l i)) (l.drop (i + 1))) 0 8 (x ^^^ (rd l i).toNat) hxx rfl (by omega) (by
      rw [w64 (by omega) (by omega)]
      have hb8 : bitn 8 (x ^^^ (rd l i).toNat) = byte8 x (rd l i) := by unfold byte8; rfl
      have hbl := bitn_lt 8 _ hxx
      rw [hb8] at hbl ⊢
      exact ih (i + 1) _ hbl (by omega))
    rw [crc_cons, ← hr]
    exact h0
theorem sCheck8_ev (l : List Int) (hu : U8s l) (hl : l.length ≤ 9223372036854775806) : Ev (fun k => spec_Check8.f k l) (crc 90 l) := by
  unfold spec_Check8.f
  have := sCheck8_l0 l hu hl l.length 0 90 (by omega) (by omega)
  simpa using this

/-- The number form. -/
def numL (x : Nat) : List Int := if h : x < 128 then [(x : Int)] else ((x % 128 + 128 : Nat) : Int) :: numL (x / 128)
termination_by x
decreasing_by omega
theorem numL_small (x : Nat) (h : x < 128) : numL x = [(x : Int)] := by rw [numL, dif_pos h]
theorem numL_big (x : Nat) (h : ¬ x < 128) : numL x = ((x % 128 + 128 : Nat) : Int) :: numL (x / 128) := by rw [numL, dif_neg h]
theorem numL_pos (x : Nat) : 0 < (numL x).length := by
  by_cases h : x < 128
  · simp [numL_small x h]
  · simp [numL_big x h]
theorem numL_len (n : Nat) : ∀ x : Nat, x < 128 ^ (n + 1) → (numL x).length ≤ n + 1 := by
  induction n with
  | zero =>
    intro x h
    rw [numL_small x (by simpa using h)]
    simp
  | succ n ih =>
    intro x h
    by_cases c : x < 128
    · simp [numL_small x c]
    · rw [numL_big x c, List.length_cons]
      have h2 : x < 128 * 128 ^ (n + 1) := by rw [Nat.pow_succ] at h; omega
      have : x / 128 < 128 ^ (n + 1) := Nat.div_lt_of_lt_mul h2
      have := ih (x / 128) this
      omega
theorem numL_len9 (x : Nat) (h : x < 9223372036854775808) : (numL x).length ≤ 9 := numL_len 8 x (by simpa using h)
theorem numL_mono (y : Nat) : ∀ x : Nat, x ≤ y → (numL x).length ≤ (numL y).length := by
  induction y using Nat.strongRecOn with
  | _ y ih =>
    intro x h
    by_cases c : x < 128
    · rw [numL_small x c]
      exact numL_pos y
    · rw [numL_big x c, numL_big y (by omega), List.length_cons, List.length_cons]
      have := ih (y / 128) (by omega) (x / 128) (by omega)
      omega
theorem numL_u8 (y : Nat) : ∀ c ∈ numL y, 0 ≤ c ∧ c ≤ 255 := by
  induction y using Nat.strongRecOn with
  | _ y ih =>
    by_cases c : y < 128
    · rw [numL_small y c]
      intro d hd
      rw [List.mem_singleton.1 hd]
      omega
    · rw [numL_big y c]
      intro d hd
      rcases List.mem_cons.1 hd with rfl | hd
      · omega
      · exact ih (y / 128) (by omega) d hd
theorem iPutNum_l0 (y : Nat) : ∀ (acc : List Int), y < 9223372036854775808 → acc.length + (numL y).length < 140737488355328 → Ev (fun k => impl_PutNum.l0 k (y : Int) acc) (acc ++ numL y) := by
  induction y using Nat.strongRecOn with
  | _ y ih =>
    intro acc hy hl
    have hp := numL_pos y
    refine Ev.step (fun k => by simp only [impl_PutNum.l0]; rfl) ?_
    by_cases c : y < 128
    · simp only [show ¬ ((y : Int) ≥ 128) by omega, show acc.length < 140737488355328 by omega, if_true, if_false]
      rw [numL_small y c, show (y : Int) % 256 = y by omega]
      exact Ev.now _
    · simp only [show (y : Int) ≥ 128 by omega, show acc.length < 140737488355328 by omega, if_true]
      rw [numL_big y c] at hl ⊢
      have e1 : wrap64 (Int.tdiv (y : Int) 128) = ((y / 128 : Nat) : Int) := by
        rw [Int.tdiv_eq_ediv_of_nonneg (by omega), w64 (by omega) (by omega)]
        omega
      have e2 : wrap64 (Int.tmod (y : Int) 128 + 128) % 256 = ((y % 128 + 128 : Nat) : Int) := by
        rw [Int.tmod_eq_emod_of_nonneg (by omega), w64 (by omega) (by omega)]
        omega
      rw [e1, e2]
      rw [List.length_cons] at hl
      have := ih (y / 128) (by omega) (acc ++ [((y % 128 + 128 : Nat) : Int)]) (by omega) (by rw [List.length_append, List.length_singleton]; omega)
      rw [List.append_assoc] at this
      exact this
theorem iPutNum_ev (x : Int) (h0 : 0 ≤ x) (h1 : x ≤ 9223372036854775807) : Ev (fun k => impl_PutNum.f k x) (numL x.toNat) := by
  obtain ⟨y, rfl⟩ := Int.eq_ofNat_of_zero_le h0
  unfold impl_PutNum.f
  simp only [show ¬ ((y : Int) < 0) by omega, if_false]
  have h9 := numL_len9 y (by omega)
  have := iPutNum_l0 y [] (by omega) (by rw [List.length_nil]; omega)
  simpa using this
theorem iPutNum_neg (x : Int) (h : x < 0) : Ev (fun k => impl_PutNum.f k x) [] := by
  unfold impl_PutNum.f
  simp only [h, if_true]
  exact Ev.now _
theorem sPutNum_l0 (y : Nat) : ∀ (acc : List Int), y < 9223372036854775808 → acc.length + (numL y).length < 140737488355328 → Ev (fun k => spec_PutNum.l0 k (y : Int) acc) (acc ++ numL y) := by
  induction y using Nat.strongRecOn with
  | _ y ih =>
    intro acc hy hl
    have hp := numL_pos y
    refine Ev.step (fun k => by simp only [spec_PutNum.l0]; rfl) ?_
    by_cases c : y < 128
    · simp only [show ¬ ((y : Int) > 127) by omega, show acc.length < 140737488355328 by omega, if_true, if_false]
      rw [numL_small y c, show (y : Int) % 256 = y by omega]
      exact Ev.now _
    · simp only [show (y : Int) > 127 by omega, show acc.length < 140737488355328 by omega, if_true]
      rw [numL_big y c] at hl ⊢
      have e1 : wrap64 (Int.tdiv (y : Int) 128) = ((y / 128 : Nat) : Int) := by
        rw [Int.tdiv_eq_ediv_of_nonneg (by omega), w64 (by omega) (by omega)]
        omega
      have e2 : wrap64 (Int.tmod (y : Int) 128 + 128) % 256 = ((y % 128 + 128 : Nat) : Int) := by
        rw [Int.tmod_eq_emod_of_nonneg (by omega), w64 (by omega) (by omega)]
        omega
      rw [e1, e2]
      rw [List.length_cons] at hl
      have := ih (y / 128) (by omega) (acc ++ [((y % 128 + 128 : Nat) : Int)]) (by omega) (by rw [List.length_append, List.length_singleton]; omega)
      rw [List.append_assoc] at this
      exact this
theorem sPutNum_ev (x : Int) (h0 : 0 ≤ x) (h1 : x ≤ 9223372036854775807) : Ev (fun k => spec_PutNum.f k x) (numL x.toNat) := by
  obtain ⟨y, rfl⟩ := Int.eq_ofNat_of_zero_le h0
  unfold spec_PutNum.f
  simp only [show ¬ ((y : Int) < 0) by omega, if_false, Option.bind_some]
  have h9 := numL_len9 y (by omega)
  have := sPutNum_l0 y [] (by omega) (by rw [List.length_nil]; omega)
  simpa using this
theorem sPutNum_neg (x : Int) (h : x < 0) : Ev (fun k => spec_PutNum.f k x) [] := by
  unfold spec_PutNum.f
  simp only [h, if_true, Option.bind_some]
  exact Ev.now _
/-- What marking writes. -/
def mkB (m n : Nat) : List Int := (List.range n).map fun j => ((m + j : Nat) : Int) % 256
theorem mkB_len (m n : Nat) : (mkB m n).length = n := by simp [mkB]
theorem mkB_succ (m n : Nat) : mkB m (n + 1) = mkB m n ++ [((m + n : Nat) : Int) % 256] := by simp [mkB, List.range_succ]
theorem mkB_get (m n i : Nat) (h : i < n) : rd (mkB m n) (i : Int) = ((m + i : Nat) : Int) % 256 := by
  rw [rd_nat _ i (by rw [mkB_len]; exact h)]
  simp [mkB]
theorem markB_l0 (l : List Int) (m : Nat) (hl : m + l.length ≤ 9223372036854775806) (d : Nat) : ∀ i : Nat, i + d = l.length →
    Ev (fun k => laws_markByteS.l0 k (mkB m i ++ l.drop i) ((m + i : Nat) : Int) (i : Int)) (((m + l.length : Nat) : Int), mkB m l.length) := by
  induction d with
  | zero =>
    intro i hi
    refine Ev.step (fun k => by simp only [laws_markByteS.l0]; rfl) ?_
    have hlen : (mkB m i ++ l.drop i).length = l.length := by rw [List.length_append, mkB_len, List.length_drop]; omega
    rw [hlen]
    simp only [show ¬ ((i : Int) < (l.length : Int)) by omega, if_false]
    have : i = l.length := by omega
    subst this
    rw [List.drop_length, List.append_nil]
    exact Ev.now _
  | succ d ih =>
    intro i hi
    refine Ev.step (fun k => by simp only [laws_markByteS.l0]; rfl) ?_
    have hlen : (mkB m i ++ l.drop i).length = l.length := by rw [List.length_append, mkB_len, List.length_drop]; omega
    rw [hlen]
    simp only [show (i : Int) < (l.length : Int) by omega, show (0 : Int) ≤ (i : Int) by omega, if_true, Int.toNat_natCast]
    have e : (mkB m i ++ l.drop i).set i (((m + i : Nat) : Int) % 256) = mkB m (i + 1) ++ l.drop (i + 1) := by
      rw [List.set_append_right _ _ (by rw [mkB_len]; exact Nat.le_refl i), mkB_len, Nat.sub_self, List.drop_eq_getElem_cons (by omega), List.set_cons_zero, mkB_succ, List.append_assoc]
      rfl
    rw [e, w64 (by omega) (by omega), w64 (by omega) (by omega)]
    exact ih (i + 1) (by omega)
theorem markB_ev (l : List Int) (m : Nat) (hl : m + l.length ≤ 9223372036854775806) : Ev (fun k => laws_markByteS.f k l (m : Int)) (((m + l.length : Nat) : Int), mkB m l.length) := by
  unfold laws_markByteS.f
  have := markB_l0 l m hl l.length 0 (by omega)
  simpa [mkB] using this
theorem heldB_l0 (m n : Nat) (hl : m + n ≤ 9223372036854775806) (d : Nat) : ∀ i : Nat, i + d = n → Ev (fun k => laws_heldByteS.l0 k (mkB m n) ((m + i : Nat) : Int) (i : Int)) ((m + n : Nat) : Int) := by
  induction d with
  | zero =>
    intro i hi
    refine Ev.step (fun k => by simp only [laws_heldByteS.l0]; rfl) ?_
    rw [mkB_len]
    simp only [show ¬ ((i : Int) < (n : Int)) by omega, if_false]
    have : i = n := by omega
    subst this
    exact Ev.now _
  | succ d ih =>
    intro i hi
    refine Ev.step (fun k => by simp only [laws_heldByteS.l0]; rfl) ?_
    rw [mkB_len, mkB_get m n i (by omega)]
    simp only [show (i : Int) < (n : Int) by omega, show (0 : Int) ≤ (i : Int) by omega, if_true]
    rw [w64 (by omega) (by omega), w64 (by omega) (by omega)]
    exact ih (i + 1) (by omega)
theorem heldB_ev (m n : Nat) (hl : m + n ≤ 9223372036854775806) : Ev (fun k => laws_heldByteS.f k (mkB m n) (m : Int)) ((m + n : Nat) : Int) := by
  unfold laws_heldByteS.f
  have := heldB_l0 m n hl n 0 (by omega)
  simpa using this
/-- When a message is one. -/
def msgOk (kind frm tq nonce lo hi slot : Int) (body : ByteArray) : Bool :=
  decide (0 ≤ frm ∧ frm ≤ 7 ∧ ((kind = 3 ∧ 0 ≤ slot ∧ slot ≤ 15 ∧ body.size ≤ 24 ∧ tq = 0 ∧ nonce = 0 ∧ lo = 0 ∧ hi = 0) ∨
    (kind ≠ 3 ∧ 0 ≤ tq ∧ tq ≤ 7 ∧ frm ≠ tq ∧ 0 ≤ nonce ∧ nonce ≤ 100000999 ∧ slot = 0 ∧ body.size = 0 ∧ ((kind = 1 ∧ lo = 0 ∧ hi = 0) ∨ (kind = 2 ∧ -1000000000000 ≤ lo ∧ lo ≤ hi ∧ hi ≤ 1000000000000)))))
theorem empty_iff (s : ByteArray) : s.toList = [] ↔ s.size = 0 := by
  rw [ByteArray.toList_eq, ← List.length_eq_zero_iff]
  rfl
theorem isNode_eq (a : Int) : impl_isNode.f a = some (decide (0 ≤ a ∧ a ≤ 7)) := by
  unfold impl_isNode.f
  rw [in_eq]
  rfl
theorem iMsgOk_eq (kind frm tq nonce lo hi slot : Int) (body : ByteArray) : impl_MsgOk.f kind frm tq nonce lo hi slot body = some (msgOk kind frm tq nonce lo hi slot body) := by
  unfold impl_MsgOk.f msgOk
  simp only [isNode_eq, in_eq, iIvalOk_eq, Option.bind_some, decide_eq_true_eq, empty_iff]
  by_cases c1 : 0 ≤ frm ∧ frm ≤ 7
  · rw [if_pos c1]
    by_cases c2 : kind = 3
    · rw [if_pos c2]
      subst c2
      by_cases c3 : 0 ≤ slot ∧ slot ≤ 15
      · rw [if_pos c3]
        by_cases c4 : (body.size : Int) ≤ 24
        · rw [if_pos c4]
          simp only [Option.some.injEq]
          rw [Bool.eq_iff_iff]
          simp
          omega
        · rw [if_neg c4]
          simp only [Option.some.injEq]
          exact (decide_eq_false (by omega)).symm
      · rw [if_neg c3]
        simp only [Option.some.injEq]
        exact (decide_eq_false (by omega)).symm
    · rw [if_neg c2]
      repeat' split
      all_goals (simp only [Option.some.injEq]; try simp only [Bool.and_eq_true, beq_iff_eq] at *)
      all_goals first | exact (decide_eq_false (by omega)).symm | exact (decide_eq_true (by omega)).symm | (rw [decide_eq_decide]; omega)
  · rw [if_neg c1]
    simp only [Option.some.injEq]
    exact (decide_eq_false (by omega)).symm
theorem l4Node_eq (a : Int) : spec_l4Node.f a = some (decide (0 ≤ a ∧ a ≤ 7)) := by
  unfold spec_l4Node.f
  rw [l1In_eq]
  rfl
theorem empty_beq (s : ByteArray) : (s.toList == ([] : List UInt8)) = decide (s.size = 0) := by
  rw [Bool.eq_iff_iff, beq_iff_eq, decide_eq_true_eq]
  exact empty_iff s
theorem j1_eq (k : Nat) (b : Bool) (kind frm tq nonce lo hi slot : Int) (body : ByteArray) : spec_MsgOk.j1 (k + 1) b kind frm tq nonce lo hi slot body =
    some (decide ((kind = 1 ∧ b = true ∧ lo = 0 ∧ hi = 0) ∨ (kind = 2 ∧ b = true ∧ -1000000000000 ≤ lo ∧ lo ≤ hi ∧ hi ≤ 1000000000000) ∨ (kind = 3 ∧ tq = 0 ∧ nonce = 0 ∧ lo = 0 ∧ hi = 0 ∧ 0 ≤ slot ∧ slot ≤ 15))) := by
  simp only [spec_MsgOk.j1, l1In_eq, sIvalOk_eq, Option.bind_some]
  by_cases k1 : kind = 1
  · subst k1
    cases b
    · simp
    · simp only [if_true, Option.some.injEq]
      rw [Bool.eq_iff_iff]
      simp
  · by_cases k2 : kind = 2
    · subst k2
      cases b
      · simp
      · simp
    · by_cases k3 : kind = 3
      · subst k3
        by_cases c1 : tq = 0
        · by_cases c2 : nonce = 0
          · by_cases c3 : lo = 0
            · by_cases c4 : hi = 0
              · simp [c1, c2, c3, c4]
              · simp [c1, c2, c3, c4]
            · simp [c1, c2, c3]
          · simp [c1, c2]
        · simp [c1]
      · simp [k1, k2, k3]
theorem sMsgOk_eq2 (k : Nat) (kind frm tq nonce lo hi slot : Int) (body : ByteArray) : spec_MsgOk.f (k + 2) kind frm tq nonce lo hi slot body = some (msgOk kind frm tq nonce lo hi slot body) := by
  unfold spec_MsgOk.f msgOk
  simp only [spec_MsgOk.j0, j1_eq, l4Node_eq, l1In_eq, Option.bind_some, decide_eq_true_eq, empty_beq, if_true]
  by_cases c1 : 0 ≤ frm ∧ frm ≤ 7
  · rw [if_pos c1]
    by_cases c2 : (body.size : Int) > 24
    · rw [if_pos c2]
      simp only [Option.some.injEq]
      exact (decide_eq_false (by omega)).symm
    · rw [if_neg c2]
      by_cases c3 : 0 ≤ tq ∧ tq ≤ 7
      · rw [if_pos c3]
        by_cases c4 : tq = frm
        · rw [if_pos c4]
          simp only [Option.some.injEq, decide_eq_decide, Bool.false_eq_true, false_and, and_false, false_or]
          omega
        · rw [if_neg c4]
          by_cases c5 : 0 ≤ nonce ∧ nonce ≤ 100000999
          · rw [if_pos c5]
            by_cases c6 : slot = 0
            · rw [if_pos c6]
              simp only [Option.some.injEq, decide_eq_decide]
              omega
            · rw [if_neg c6]
              simp only [Option.some.injEq, decide_eq_decide, Bool.false_eq_true, false_and, and_false, false_or]
              omega
          · rw [if_neg c5]
            simp only [Option.some.injEq, decide_eq_decide, Bool.false_eq_true, false_and, and_false, false_or]
            omega
      · rw [if_neg c3]
        simp only [Option.some.injEq, decide_eq_decide, Bool.false_eq_true, false_and, and_false, false_or]
        omega
  · rw [if_neg c1]
    simp only [Option.some.injEq]
    exact (decide_eq_false (by omega)).symm
theorem toMsg_eq (a b c d e f g : Int) (s : ByteArray) : laws_toMsg.f a b c d e f g s = some (a, b, c, d, e, f, g, s) := by
  unfold laws_toMsg.f
  rfl
theorem ev_if {α : Type} {c : Prop} [Decidable c] {f g : Nat → Option α} {r : α} (hc : c) (h : Ev f r) : Ev (fun k => if c then f k else g k) r := by
  simp only [hc, if_true]
  exact h
theorem ev_ifn {α : Type} {c : Prop} [Decidable c] {f g : Nat → Option α} {r : α} (hc : ¬ c) (h : Ev g r) : Ev (fun k => if c then f k else g k) r := by
  simp only [hc, if_false]
  exact h
theorem ev2 {α : Type} {g : Nat → Option α} {r : α} (h : ∀ k, g (k + 2) = some r) : Ev g r := ⟨2, fun k hk => by obtain ⟨m, rfl⟩ : ∃ m, k = m + 2 := ⟨k - 2, by omega⟩; exact h m⟩
def fold (x : Int) : Int := if x < 0 then -2 * x - 1 else 2 * x
theorem fold_bd {x : Int} (h : -1000000000000 ≤ x ∧ x ≤ 1000000000000) : 0 ≤ fold x ∧ fold x ≤ 2000000000000 := by unfold fold; omega
theorem iFold_eq {x : Int} (h : -1000000000000 ≤ x ∧ x ≤ 1000000000000) : impl_Fold.f x = some (fold x) := by
  unfold impl_Fold.f fold
  simp only [in_eq, Option.bind_some, h, and_self, decide_true, if_true]
  by_cases c : x < 0
  · rw [if_pos c, if_pos c, w64 (x := -2 * x) (by omega) (by omega), w64 (by omega) (by omega)]
  · rw [if_neg c, if_neg c, w64 (by omega) (by omega)]
theorem sFold_eq {x : Int} (h : -1000000000000 ≤ x ∧ x ≤ 1000000000000) : spec_Fold.f x = some (fold x) := by
  unfold spec_Fold.f fold
  simp only [l1In_eq, Option.bind_some, h, and_self, decide_true, if_true]
  by_cases c : x < 0
  · rw [if_pos c, if_pos c, w64 (x := -2 * x) (by omega) (by omega), w64 (by omega) (by omega)]
  · rw [if_neg c, if_neg c, w64 (by omega) (by omega)]
theorem u8_of {c : Int} (h : 0 ≤ c ∧ c ≤ 255) : (Lit.int .u8 c).wf = true := by
  simp [Lit.wf, IntKind.min, IntKind.max, IntKind.signed, IntKind.bits]
  omega
theorem bytes_u8 (b : ByteArray) : ∀ c ∈ bytesOf b, 0 ≤ c ∧ c ≤ 255 := by
  intro c hc
  unfold bytesOf at hc
  obtain ⟨u, _, rfl⟩ := List.mem_map.1 hc
  have := u.toNat_lt
  constructor
  · exact Int.natCast_nonneg _
  · have : u.toNat < 256 := u.toNat_lt
    omega
/-- A message's form, but for its check. -/
def packE (kind frm tq nonce lo hi slot : Int) (body : ByteArray) : List Int :=
  if kind = 2 then ((if kind = 3 then (([kind % 256] ++ numL frm.toNat) ++ numL slot.toNat) ++ numL (body.size : Int).toNat ++ bytesOf body else (([kind % 256] ++ numL frm.toNat) ++ numL tq.toNat) ++ numL nonce.toNat) ++ numL (fold lo).toNat) ++ numL (fold hi).toNat
  else (if kind = 3 then (([kind % 256] ++ numL frm.toNat) ++ numL slot.toNat) ++ numL (body.size : Int).toNat ++ bytesOf body else (([kind % 256] ++ numL frm.toNat) ++ numL tq.toNat) ++ numL nonce.toNat)
def packB (kind frm tq nonce lo hi slot : Int) (body : ByteArray) : List Int := packE kind frm tq nonce lo hi slot body ++ [(crc 90 (packE kind frm tq nonce lo hi slot body) : Int) % 256]
theorem msgOk_iff {kind frm tq nonce lo hi slot : Int} {body : ByteArray} : msgOk kind frm tq nonce lo hi slot body = true ↔ (0 ≤ frm ∧ frm ≤ 7 ∧ ((kind = 3 ∧ 0 ≤ slot ∧ slot ≤ 15 ∧ body.size ≤ 24 ∧ tq = 0 ∧ nonce = 0 ∧ lo = 0 ∧ hi = 0) ∨
    (kind ≠ 3 ∧ 0 ≤ tq ∧ tq ≤ 7 ∧ frm ≠ tq ∧ 0 ≤ nonce ∧ nonce ≤ 100000999 ∧ slot = 0 ∧ body.size = 0 ∧ ((kind = 1 ∧ lo = 0 ∧ hi = 0) ∨ (kind = 2 ∧ -1000000000000 ≤ lo ∧ lo ≤ hi ∧ hi ≤ 1000000000000))))) := by
  unfold msgOk
  exact decide_eq_true_iff
theorem num9 {x : Int} (h0 : 0 ≤ x) (h1 : x ≤ 9223372036854775807) : (numL x.toNat).length ≤ 9 := numL_len9 _ (by omega)
theorem u8s_app {a b : List Int} (h1 : U8s a) (h2 : U8s b) : U8s (a ++ b) := by
  intro c hc
  rcases List.mem_append.1 hc with h | h
  · exact h1 c h
  · exact h2 c h
theorem packE_u8 (kind frm tq nonce lo hi slot : Int) (body : ByteArray) : U8s (packE kind frm tq nonce lo hi slot body) := by
  have hn : ∀ n, U8s (numL n) := fun n c hc => u8_of (numL_u8 n c hc)
  have hb : U8s (bytesOf body) := fun c hc => u8_of (bytes_u8 body c hc)
  have hk : U8s [kind % 256] := by
    intro c hc
    rw [List.mem_singleton] at hc
    rw [hc]
    exact u8_of (by omega)
  unfold packE
  split <;> split <;> repeat' (first | exact hn _ | exact hb | exact hk | apply u8s_app)
theorem packE_len {kind frm tq nonce lo hi slot : Int} {body : ByteArray} (h : msgOk kind frm tq nonce lo hi slot body = true) : (packE kind frm tq nonce lo hi slot body).length ≤ 1000 := by
  have g := msgOk_iff.1 h
  have a1 := num9 g.1 (by omega)
  have a2 := num9 (x := tq) (by omega) (by omega)
  have a3 := num9 (x := nonce) (by omega) (by omega)
  have a4 := num9 (x := slot) (by omega) (by omega)
  have a5 := num9 (x := (body.size : Int)) (by omega) (by omega)
  have b1 := fold_bd (x := lo) (by omega)
  have b2 := fold_bd (x := hi) (by omega)
  have a6 := num9 (x := fold lo) b1.1 (by omega)
  have a7 := num9 (x := fold hi) b2.1 (by omega)
  unfold packE
  split <;> split <;> simp only [List.length_append, List.length_cons, List.length_nil, bytesOf_length] <;> omega
theorem packB_len {kind frm tq nonce lo hi slot : Int} {body : ByteArray} (h : msgOk kind frm tq nonce lo hi slot body = true) : (packB kind frm tq nonce lo hi slot body).length ≤ 1001 := by
  unfold packB
  rw [List.length_append]
  have := packE_len h
  simp only [List.length_cons, List.length_nil]
  omega
theorem iPack_j0 {kind frm tq nonce lo hi slot : Int} {body : ByteArray} (h : msgOk kind frm tq nonce lo hi slot body = true) :
    Ev (fun k => impl_Msg_pack.j0 k (if kind = 3 then (([kind % 256] ++ numL frm.toNat) ++ numL slot.toNat) ++ numL (body.size : Int).toNat ++ bytesOf body else (([kind % 256] ++ numL frm.toNat) ++ numL tq.toNat) ++ numL nonce.toNat) kind frm tq nonce lo hi slot body) (packB kind frm tq nonce lo hi slot body) := by
  have g := msgOk_iff.1 h
  have hu := packE_u8 kind frm tq nonce lo hi slot body
  have hl := packE_len h
  have b1 := fold_bd (x := lo) (by omega)
  have b2 := fold_bd (x := hi) (by omega)
  have a6 := num9 (x := fold lo) b1.1 (by omega)
  have a7 := num9 (x := fold hi) b2.1 (by omega)
  refine Ev.step (fun k => by simp only [impl_Msg_pack.j0]; rfl) ?_
  unfold packB
  unfold packE at hu hl ⊢
  by_cases c2 : kind = 2
  · rw [if_pos c2] at hu hl ⊢
    refine ev_if c2 ?_
    generalize (if kind = 3 then (([kind % 256] ++ numL frm.toNat) ++ numL slot.toNat) ++ numL (body.size : Int).toNat ++ bytesOf body else (([kind % 256] ++ numL frm.toNat) ++ numL tq.toNat) ++ numL nonce.toNat) = m at *
    rw [List.length_append, List.length_append] at hl
    simp only [iFold_eq (x := lo) (by omega), iFold_eq (x := hi) (by omega), Option.bind_some]
    refine Ev.bind (iPutNum_ev _ b1.1 (by omega)) ?_
    refine ev_if (by omega) ?_
    refine Ev.bind (iPutNum_ev _ b2.1 (by omega)) ?_
    refine ev_if (by rw [List.length_append]; omega) ?_
    refine Ev.bind (iCheck8_ev _ hu (by simp only [List.length_append]; omega)) ?_
    refine ev_if (by simp only [List.length_append]; omega) ?_
    exact Ev.now _
  · rw [if_neg c2] at hu hl ⊢
    refine ev_ifn c2 ?_
    refine Ev.bind (iCheck8_ev _ hu (by omega)) ?_
    refine ev_if (by omega) ?_
    exact Ev.now _
theorem iMsgpack_ev {kind frm tq nonce lo hi slot : Int} {body : ByteArray} (h : msgOk kind frm tq nonce lo hi slot body = true) : Ev (fun k => impl_Msg_pack.f k kind frm tq nonce lo hi slot body) (packB kind frm tq nonce lo hi slot body) := by
  have g := msgOk_iff.1 h
  have a1 := num9 g.1 (by omega)
  have a2 := num9 (x := tq) (by omega) (by omega)
  have a3 := num9 (x := nonce) (by omega) (by omega)
  have a4 := num9 (x := slot) (by omega) (by omega)
  have a5 := num9 (x := (body.size : Int)) (by omega) (by omega)
  have hj := iPack_j0 h
  unfold impl_Msg_pack.f
  simp only [Option.bind_some]
  refine Ev.bind (iPutNum_ev _ g.1 (by omega)) ?_
  refine ev_if (by simp only [List.length_cons, List.length_nil]; omega) ?_
  by_cases c3 : kind = 3
  · rw [if_pos c3] at hj
    refine ev_if c3 ?_
    refine Ev.bind (iPutNum_ev slot (by omega) (by omega)) ?_
    refine ev_if (by simp only [List.length_append, List.length_cons, List.length_nil]; omega) ?_
    refine Ev.bind (iPutNum_ev (body.size : Int) (by omega) (by omega)) ?_
    refine ev_if (by simp only [List.length_append, List.length_cons, List.length_nil]; omega) ?_
    refine ev_if (by simp only [List.length_append, List.length_cons, List.length_nil]; omega) ?_
    exact hj
  · rw [if_neg c3] at hj
    refine ev_ifn c3 ?_
    refine Ev.bind (iPutNum_ev tq (by omega) (by omega)) ?_
    refine ev_if (by simp only [List.length_append, List.length_cons, List.length_nil]; omega) ?_
    refine Ev.bind (iPutNum_ev nonce (by omega) (by omega)) ?_
    refine ev_if (by simp only [List.length_append, List.length_cons, List.length_nil]; omega) ?_
    exact hj
theorem iPack_ev (kind frm tq nonce lo hi slot : Int) (body : ByteArray) : Ev (fun k => impl_Pack.f k kind frm tq nonce lo hi slot body) (if msgOk kind frm tq nonce lo hi slot body = true then (packB kind frm tq nonce lo hi slot body, true) else ([], false)) := by
  unfold impl_Pack.f
  simp only [iMsgOk_eq, Option.bind_some]
  by_cases h : msgOk kind frm tq nonce lo hi slot body = true
  · rw [if_pos h]
    refine ev_if h ?_
    refine Ev.bind (iMsgpack_ev h) ?_
    exact Ev.now _
  · rw [if_neg h]
    refine ev_ifn h ?_
    exact Ev.now _
theorem sPack_j0 {kind frm tq nonce lo hi slot : Int} {body : ByteArray} (h : msgOk kind frm tq nonce lo hi slot body = true) :
    Ev (fun k => spec_Pack.j0 k (if kind = 3 then (([kind % 256] ++ numL frm.toNat) ++ numL slot.toNat) ++ numL (body.size : Int).toNat ++ bytesOf body else (([kind % 256] ++ numL frm.toNat) ++ numL tq.toNat) ++ numL nonce.toNat) kind frm tq nonce lo hi slot body) (packB kind frm tq nonce lo hi slot body, true) := by
  have g := msgOk_iff.1 h
  have hu := packE_u8 kind frm tq nonce lo hi slot body
  have hl := packE_len h
  have b1 := fold_bd (x := lo) (by omega)
  have b2 := fold_bd (x := hi) (by omega)
  have a6 := num9 (x := fold lo) b1.1 (by omega)
  have a7 := num9 (x := fold hi) b2.1 (by omega)
  refine Ev.step (fun k => by simp only [spec_Pack.j0]; rfl) ?_
  unfold packB
  unfold packE at hu hl ⊢
  by_cases c2 : kind = 2
  · rw [if_pos c2] at hu hl ⊢
    refine ev_if c2 ?_
    generalize (if kind = 3 then (([kind % 256] ++ numL frm.toNat) ++ numL slot.toNat) ++ numL (body.size : Int).toNat ++ bytesOf body else (([kind % 256] ++ numL frm.toNat) ++ numL tq.toNat) ++ numL nonce.toNat) = m at *
    rw [List.length_append, List.length_append] at hl
    simp only [sFold_eq (x := lo) (by omega), sFold_eq (x := hi) (by omega), Option.bind_some]
    refine Ev.bind (sPutNum_ev _ b1.1 (by omega)) ?_
    refine ev_if (by omega) ?_
    refine Ev.bind (sPutNum_ev _ b2.1 (by omega)) ?_
    refine ev_if (by rw [List.length_append]; omega) ?_
    refine Ev.bind (sCheck8_ev _ hu (by simp only [List.length_append]; omega)) ?_
    refine ev_if (by simp only [List.length_append]; omega) ?_
    exact Ev.now _
  · rw [if_neg c2] at hu hl ⊢
    refine ev_ifn c2 ?_
    refine Ev.bind (sCheck8_ev _ hu (by omega)) ?_
    refine ev_if (by omega) ?_
    exact Ev.now _
theorem sPack_ev (kind frm tq nonce lo hi slot : Int) (body : ByteArray) : Ev (fun k => spec_Pack.f k kind frm tq nonce lo hi slot body) (if msgOk kind frm tq nonce lo hi slot body = true then (packB kind frm tq nonce lo hi slot body, true) else ([], false)) := by
  unfold spec_Pack.f
  refine Ev.bind (ev2 fun k => sMsgOk_eq2 k _ _ _ _ _ _ _ _) ?_
  by_cases h : msgOk kind frm tq nonce lo hi slot body = true
  · rw [if_pos h]
    refine ev_if h ?_
    have g := msgOk_iff.1 h
    have a1 := num9 g.1 (by omega)
    have a2 := num9 (x := tq) (by omega) (by omega)
    have a3 := num9 (x := nonce) (by omega) (by omega)
    have a4 := num9 (x := slot) (by omega) (by omega)
    have a5 := num9 (x := (body.size : Int)) (by omega) (by omega)
    have hj := sPack_j0 h
    simp only [Option.bind_some]
    refine Ev.bind (sPutNum_ev _ g.1 (by omega)) ?_
    refine ev_if (by simp only [List.length_cons, List.length_nil]; omega) ?_
    by_cases c3 : kind = 3
    · rw [if_pos c3] at hj
      refine ev_if c3 ?_
      refine Ev.bind (sPutNum_ev slot (by omega) (by omega)) ?_
      refine ev_if (by simp only [List.length_append, List.length_cons, List.length_nil]; omega) ?_
      refine Ev.bind (sPutNum_ev (body.size : Int) (by omega) (by omega)) ?_
      refine ev_if (by simp only [List.length_append, List.length_cons, List.length_nil]; omega) ?_
      refine ev_if (by simp only [List.length_append, List.length_cons, List.length_nil]; omega) ?_
      exact hj
    · rw [if_neg c3] at hj
      refine ev_ifn c3 ?_
      refine Ev.bind (sPutNum_ev tq (by omega) (by omega)) ?_
      refine ev_if (by simp only [List.length_append, List.length_cons, List.length_nil]; omega) ?_
      refine Ev.bind (sPutNum_ev nonce (by omega) (by omega)) ?_
      refine ev_if (by simp only [List.length_append, List.length_cons, List.length_nil]; omega) ?_
      exact hj
  · rw [if_neg h]
    refine ev_ifn h ?_
    exact Ev.now _

theorem FnExactPack (a0_0 a0_1 a0_2 a0_3 a0_4 a0_5 a0_6 : Int) (a0_7 : ByteArray)
    (_h : (Lit.int .i64 a0_0).wf = true ∧ (Lit.int .i64 a0_1).wf = true ∧ (Lit.int .i64 a0_2).wf = true ∧ (Lit.int .i64 a0_3).wf = true ∧ ((Lit.int .i64 a0_4).wf = true ∧ (Lit.int .i64 a0_5).wf = true) ∧ (Lit.int .i64 a0_6).wf = true ∧ a0_7.size ≤ maxLen) :
    ∃ k, laws_FnExactPack.f k a0_0 a0_1 a0_2 a0_3 a0_4 a0_5 a0_6 a0_7 = some true := by
  apply Ev.rounds
  unfold laws_FnExactPack.f
  obtain ⟨t, ht⟩ : ∃ t, laws_szMsg.f a0_0 a0_1 a0_2 a0_3 a0_4 a0_5 a0_6 a0_7 1048576 = some t := by
    unfold laws_szMsg.f
    split <;> exact ⟨_, rfl⟩
  simp only [ht, Option.bind_some]
  by_cases c : t < 0
  · exact ev_if c (Ev.now true)
  · refine ev_ifn c ?_
    simp only [toMsg_eq, Option.bind_some]
    refine Ev.bind (sPack_ev _ _ _ _ _ _ _ _) ?_
    refine Ev.bind (iPack_ev _ _ _ _ _ _ _ _) ?_
    have hr : (if msgOk a0_0 a0_1 a0_2 a0_3 a0_4 a0_5 a0_6 a0_7 = true then (packB a0_0 a0_1 a0_2 a0_3 a0_4 a0_5 a0_6 a0_7, true) else ([], false)).1.length ≤ 1001 := by
      split
      · next h => exact packB_len h
      · simp
    have he := iPack_ev a0_0 a0_1 a0_2 a0_3 a0_4 a0_5 a0_6 a0_7
    generalize (if msgOk a0_0 a0_1 a0_2 a0_3 a0_4 a0_5 a0_6 a0_7 = true then (packB a0_0 a0_1 a0_2 a0_3 a0_4 a0_5 a0_6 a0_7, true) else (([] : List Int), false)) = r at *
    refine Ev.bind (eqByteS_ev _ (by omega)) ?_
    simp only [if_true, bne_self_eq_false]
    refine Ev.step (fun k => by simp only [laws_FnExactPack.j0]; rfl) ?_
    simp only [Bool.false_eq_true, if_false]
    refine Ev.bind (markB_ev _ 1 (by omega)) ?_
    refine Ev.bind (heldB_ev 1 _ (by omega)) ?_
    refine ev_ifn (by omega) ?_
    simp only [if_true, toMsg_eq, Option.bind_some]
    refine Ev.bind he ?_
    refine Ev.bind (eqByteS_ev _ (by omega)) ?_
    simp only [if_true, bne_self_eq_false]
    refine Ev.step (fun k => by simp only [laws_FnExactPack.j1]; rfl) ?_
    simp only [Bool.false_eq_true, if_false]
    refine Ev.bind (heldB_ev 1 _ (by omega)) ?_
    refine ev_ifn (by omega) ?_
    simp only [if_true]
    exact Ev.now true

end Go.Proofs.Ytpnfbekbkeiahaa.Pure
