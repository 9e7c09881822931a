/- The plain half of FnExactJoinMsgs: what the printed functions compute, over numbers and lists alone. No condition. -/
import Derived.Test.YtpnfbekbkeiahaaTEJoinMsgsXFnExactJoinMsgsx
import Derived.OpenShut
namespace Go.Proofs.Ytpnfbekbkeiahaa.Pure
open Go.RowKit Go.Proofs.Ytpnfbekbkeiahaa.XFnExactJoinMsgs Go.Proofs.YtpnfbekbkeiahaaW.PrintWords Go.Proofs.YtpnfbekbkeiahaaW.PrintLast Go.Proofs.YtpnfbekbkeiahaaW.PrintMore
set_option linter.unusedVariables false
set_option linter.unusedSimpArgs false
theorem wf64 {x : Int} (h : (Lit.int .i64 x).wf = true) : -9223372036854775808 ≤ x ∧ x ≤ 9223372036854775807 := by
 simp [Lit.wf, IntKind.min, IntKind.max, IntKind.signed, IntKind.bits] at h
 omega
theorem w64 {x : Int} (h1 : -9223372036854775808 ≤ x) (h2 : x ≤ 9223372036854775807) : wrap64 x = x := by
 unfold wrap64
 omega
theorem in_eq (a b c : Int) : impl_in.f a b c = some (decide (b ≤ a ∧ a ≤ c)) := by
 unfold impl_in.f
 by_cases h : b ≤ a <;> simp [h]
theorem l1In_eq (a b c : Int) : spec_l1In.f a b c = some (decide (b ≤ a ∧ a ≤ c)) := by
 unfold spec_l1In.f
 by_cases h : b ≤ a <;> simp [h]
theorem iIvalOk_eq (a b : Int) : impl_IvalOk.f a b = some (decide (-1000000000000 ≤ a ∧ a ≤ b ∧ b ≤ 1000000000000)) := by
 unfold impl_IvalOk.f
 by_cases h : -1000000000000 ≤ a <;> by_cases h2 : a ≤ b <;> simp [h, h2]
theorem sIvalOk_eq (a b : Int) : spec_IvalOk.f a b = some (decide (-1000000000000 ≤ a ∧ a ≤ b ∧ b ≤ 1000000000000)) := by
 unfold spec_IvalOk.f
 simp only [l1In_eq, Option.bind_some, decide_eq_true_eq]
 by_cases h : a ≤ b
 ·rw [if_pos h]
  by_cases h2 : -1000000000000 ≤ a ∧ a ≤ 1000000000000
  ·rw [if_pos h2]
   simp only [Option.some.injEq, decide_eq_decide]
   omega
  ·rw [if_neg h2]
   simp only [Option.some.injEq]
   exact (decide_eq_false (by omega)).symm
 ·rw [if_neg h]
  simp only [Option.some.injEq]
  exact (decide_eq_false (by omega)).symm
theorem eqIval_self (a b : Int) : laws_eqIval.f a b a b = some true := by
 unfold laws_eqIval.f
 simp
/-- All of a list are bytes. -/
def U8s (l : List Int) : Prop := ∀ x ∈ l, (Lit.int .u8 x).wf = true
theorem u8s_rd {l : List Int} (h : U8s l) (i : Int) : 0 ≤ rd l i ∧ rd l i ≤ 255 := by
 unfold rd
 rw [List.getD_eq_getElem?_getD]
 rcases Nat.lt_or_ge i.toNat l.length with hi | hi
 ·rw [List.getElem?_eq_getElem hi]
  exact Go.bounds_u8 (h _ (List.getElem_mem hi))
 ·rw [List.getElem?_eq_none hi]
  decide
theorem rd_nat (l : List Int) (i : Nat) (hi : i < l.length) : rd l (i : Int) = l[i] := by
 unfold rd
 rw [List.getD_eq_getElem?_getD]
 simp [List.getElem?_eq_getElem hi]
theorem eqByteS_l0 (l : List Int) (hl : l.length ≤ 9223372036854775806) (d : Nat) : ∀ i : Nat, i + d = l.length → Ev (fun k => laws_eqByteS.l0 k l l i) true := by
 induction d with
 | zero =>
  intro i hi
  refine Ev.step (fun k => by simp only [laws_eqByteS.l0]; rfl) ?_
  simp only [show ¬ ((i : Int) < (l.length : Int)) by omega, if_false]
  exact Ev.now true
 | succ d ih =>
  intro i hi
  refine Ev.step (fun k => by simp only [laws_eqByteS.l0]; rfl) ?_
  simp only [show (i : Int) < (l.length : Int) by omega, show (0 : Int) ≤ (i : Int) by omega, if_true]
  rw [w64 (by omega) (by omega)]
  exact ih (i + 1) (by omega)
theorem eqByteS_ev (l : List Int) (hl : l.length ≤ 9223372036854775806) : Ev (fun k => laws_eqByteS.f k l l) true := by
 unfold laws_eqByteS.f
 simp only [if_true]
 exact eqByteS_l0 l hl l.length 0 (by omega)
theorem wrapi64 (n : Int) (h0 : 0 ≤ n) (h1 : n < 9223372036854775808) : IntKind.i64.wrap n = n := by
 rw [IntKind.wrap_i64]
 omega
theorem ofInt_i64 (a : Nat) (ha : a < 18446744073709551616) : (BitVec.ofInt 64 (a : Int)).toNat = a := by
 rw [BitVec.ofInt_natCast, BitVec.toNat_ofNat]
 exact Nat.mod_eq_of_lt ha
theorem xor_nat (a b : Nat) (ha : a < 256) (hb : b < 256) : Go.bits .xor .i64 (a : Int) (b : Int) = ((a ^^^ b : Nat) : Int) := by
 have hx : a ^^^ b < 2 ^ 8 := Nat.xor_lt_two_pow (by omega) (by omega)
 show IntKind.i64.wrap ((BitVec.ofInt 64 (a : Int) ^^^ BitVec.ofInt 64 (b : Int)).toNat : Int) = _
 rw [BitVec.toNat_xor, ofInt_i64 a (by omega), ofInt_i64 b (by omega), wrapi64 _ (by omega) (by omega)]
theorem xor_i64 (a b : Int) (h1 : 0 ≤ a) (h2 : a < 256) (h3 : 0 ≤ b) (h4 : b < 256) : Go.bits .xor .i64 a b = ((a.toNat ^^^ b.toNat : Nat) : Int) := by
 obtain ⟨A, rfl⟩ := Int.eq_ofNat_of_zero_le h1
 obtain ⟨B, rfl⟩ := Int.eq_ofNat_of_zero_le h3
 simpa using xor_nat A B (by omega) (by omega)
theorem and255 (a : Int) (h1 : 0 ≤ a) (h2 : a < 512) : Go.bits .and .i64 a 255 = a % 256 := by
 have h := bits_mask .i64 9 (by decide) (fun n h0 h1 => wrapi64 n h0 (by omega)) 8 (by decide) a h1 (by omega)
 simpa using h
/-- One bit of the check: numbers below 256. -/
def bit1 (x : Nat) : Nat := if 2 * x > 255 then (2 * x) % 256 ^^^ 7 else 2 * x
def bitn : Nat → Nat → Nat
 | 0, x => x
 | n + 1, x => bitn n (bit1 x)
/-- The check of some bytes, from a state on. -/
def byte8 (x : Nat) (c : Int) : Nat := bitn 8 (x ^^^ c.toNat)
def crc (x : Nat) (l : List Int) : Nat := l.foldl byte8 x
theorem crc_nil (x : Nat) : crc x [] = x := List.foldl_nil
theorem crc_cons (x : Nat) (c : Int) (l : List Int) : crc x (c :: l) = crc (byte8 x c) l := List.foldl_cons ..
theorem bit1_lt (x : Nat) (h : x < 256) : bit1 x < 256 := by
 unfold bit1
 split
 ·exact Nat.xor_lt_two_pow (n := 8) (by omega) (by omega)
 ·omega
theorem bitn_lt (n : Nat) : ∀ x, x < 256 → bitn n x < 256 := by
 induction n with
 | zero => exact fun x h => h
 | succ n ih => exact fun x h => ih _ (bit1_lt x h)
theorem xor_lt (x y : Nat) (h : x < 256) (h' : y < 256) : x ^^^ y < 256 := Nat.xor_lt_two_pow (n := 8) (by omega) (by omega)
theorem crc_lt (l : List Int) (hl : ∀ c ∈ l, 0 ≤ c ∧ c ≤ 255) : ∀ x, x < 256 → crc x l < 256 := by
 induction l with
 | nil => exact fun x h => h
 | cons c l ih =>
  intro x h
  have hc := hl c List.mem_cons_self
  have hb : byte8 x c < 256 := by unfold byte8; exact bitn_lt 8 _ (xor_lt x c.toNat h (by omega))
  rw [crc_cons]
  exact ih (fun d hd => hl d (List.mem_cons_of_mem _ hd)) _ hb
theorem iCheck8_bits (r : Option Int) (l : List Int) (n i : Int) (R : Int) (j : Nat) : ∀ (d x : Nat), x < 256 → j = 8 - d → d ≤ 8 → Ev (fun k => impl_Check8.l0 k (bitn d x) l n (wrap64 (i + 1))) R → Ev (fun k => impl_Check8.l1 k x l n i ((8 - d : Nat) : Int)) R := by
 intro d
 induction d generalizing j with
 | zero =>
  intro x hx _ _ h
  refine Ev.step (fun k => by simp only [impl_Check8.l1]; rfl) ?_
  simpa [bitn] using h
 | succ d ih =>
  intro x hx hj hd h
  refine Ev.step (fun k => by simp only [impl_Check8.l1]; rfl) ?_
  have e8 : ((8 - (d + 1) : Nat) : Int) < 8 := by omega
  simp only [e8, if_true]
  have ew : wrap64 (((8 - (d + 1) : Nat) : Int) + 1) = ((8 - d : Nat) : Int) := by rw [w64 (by omega) (by omega)]; omega
  rw [ew, show wrap64 ((x : Int) * 2) = ((2 * x : Nat) : Int) by rw [w64 (by omega) (by omega)]; omega]
  by_cases c : 2 * x > 255
  ·simp only [show ((2 * x : Nat) : Int) > 255 by omega, if_true]
   rw [and255 _ (by omega) (by omega), show ((2 * x : Nat) : Int) % 256 = ((2 * x % 256 : Nat) : Int) by omega, show (7 : Int) = ((7 : Nat) : Int) from rfl, xor_nat _ _ (by omega) (by omega)]
   have eb : 2 * x % 256 ^^^ 7 = bit1 x := by unfold bit1; rw [if_pos c]
   rw [eb]
   exact ih _ (bit1 x) (bit1_lt x hx) rfl (by omega) h
  ·simp only [show ¬ (((2 * x : Nat) : Int) > 255) by omega, if_false]
   have eb : 2 * x = bit1 x := by unfold bit1; rw [if_neg c]
   rw [eb]
   exact ih _ (bit1 x) (bit1_lt x hx) rfl (by omega) h
theorem iCheck8_l0 (l : List Int) (hu : U8s l) (hl : l.length ≤ 9223372036854775806) (d : Nat) : ∀ (i x : Nat), x < 256 → i + d = l.length → Ev (fun k => impl_Check8.l0 k x l (l.length : Int) i) (crc x (l.drop i)) := by
 induction d with
 | zero =>
  intro i x hx hi
  refine Ev.step (fun k => by simp only [impl_Check8.l0]; rfl) ?_
  simp only [show ¬ ((i : Int) < (l.length : Int)) by omega, if_false]
  rw [List.drop_eq_nil_of_le (by omega), crc_nil]
  exact Ev.now _
 | succ d ih =>
  intro i x hx hi
  refine Ev.step (fun k => by simp only [impl_Check8.l0]; rfl) ?_
  simp only [show (i : Int) < (l.length : Int) by omega, show (0 : Int) ≤ (i : Int) by omega, if_true]
  have hb := u8s_rd hu (i : Int)
  rw [w64 (x := rd l i) (by omega) (by omega), xor_i64 _ _ (by omega) (by omega) hb.1 (by omega), Int.toNat_natCast]
  rw [List.drop_eq_getElem_cons (show i < l.length by omega)]
  have hr : rd l (i : Int) = l[i] := rd_nat l i (by omega)
  have hxx := xor_lt x (rd l i).toNat hx (by omega)
  have h0 := iCheck8_bits none l (l.length : Int) (i : Int) (crc (byte8 x (rd l i)) (l.drop (i + 1))) 0 8 (x ^^^ (rd l i).toNat) hxx rfl (by omega) (by
   rw [w64 (by omega) (by omega)]
   have hb8 : bitn 8 (x ^^^ (rd l i).toNat) = byte8 x (rd l i) := by unfold byte8; rfl
   have hbl := bitn_lt 8 _ hxx
   rw [hb8] at hbl ⊢
   exact ih (i + 1) _ hbl (by omega))
  rw [crc_cons, ← hr]
  exact h0
theorem iCheck8_ev (l : List Int) (hu : U8s l) (hl : l.length ≤ 9223372036854775806) : Ev (fun k => impl_Check8.f k l) (crc 90 l) := by
 unfold impl_Check8.f
 have := iCheck8_l0 l hu hl l.length 0 90 (by omega) (by omega)
 simpa using this
theorem sCheck8_bits (l : List Int) (i : Int) (R : Int) (j : Nat) : ∀ (d x : Nat), x < 256 → j = 8 - d → d ≤ 8 → Ev (fun k => spec_Check8.l0 k l (bitn d x) (wrap64 (i + 1))) R → Ev (fun k => spec_Check8.l1 k l x i ((8 - d : Nat) : Int)) R := by
 intro d
 induction d generalizing j with
 | zero =>
  intro x hx _ _ h
  refine Ev.step (fun k => by simp only [spec_Check8.l1]; rfl) ?_
  simpa [bitn] using h
 | succ d ih =>
  intro x hx hj hd h
  refine Ev.step (fun k => by simp only [spec_Check8.l1]; rfl) ?_
  have e8 : ((8 - (d + 1) : Nat) : Int) < 8 := by omega
  simp only [e8, if_true]
  have ew : wrap64 (((8 - (d + 1) : Nat) : Int) + 1) = ((8 - d : Nat) : Int) := by rw [w64 (by omega) (by omega)]; omega
  rw [ew, show wrap64 (2 * (x : Int)) = ((2 * x : Nat) : Int) by rw [w64 (by omega) (by omega)]; omega]
  by_cases c : 2 * x > 255
  ·simp only [show ((2 * x : Nat) : Int) > 255 by omega, if_true]
   rw [Int.tmod_eq_emod_of_nonneg (by omega), show ((2 * x : Nat) : Int) % 256 = ((2 * x % 256 : Nat) : Int) by omega, show (7 : Int) = ((7 : Nat) : Int) from rfl, xor_nat _ _ (by omega) (by omega)]
   have eb : 2 * x % 256 ^^^ 7 = bit1 x := by unfold bit1; rw [if_pos c]
   rw [eb]
   exact ih _ (bit1 x) (bit1_lt x hx) rfl (by omega) h
  ·simp only [show ¬ (((2 * x : Nat) : Int) > 255) by omega, if_false]
   have eb : 2 * x = bit1 x := by unfold bit1; rw [if_neg c]
   rw [eb]
   exact ih _ (bit1 x) (bit1_lt x hx) rfl (by omega) h
theorem sCheck8_l0 (l : List Int) (hu : U8s l) (hl : l.length ≤ 9223372036854775806) (d : Nat) : ∀ (i x : Nat), x < 256 → i + d = l.length → Ev (fun k => spec_Check8.l0 k l x i) (crc x (l.drop i)) := by
 induction d with
 | zero =>
  intro i x hx hi
  refine Ev.step (fun k => by simp only [spec_Check8.l0]; rfl) ?_
  simp only [show ¬ ((i : Int) < (l.length : Int)) by omega, if_false]
  rw [List.drop_eq_nil_of_le (by omega), crc_nil]
  exact Ev.now _
 | succ d ih =>
  intro i x hx hi
  refine Ev.step (fun k => by simp only [spec_Check8.l0]; rfl) ?_
  simp only [show (i : Int) < (l.length : Int) by omega, show (0 : Int) ≤ (i : Int) by omega, if_true]
  have hb := u8s_rd hu (i : Int)
  rw [w64 (x := rd l i) (by omega) (by omega), xor_i64 _ _ (by omega) (by omega) hb.1 (by omega), Int.toNat_natCast]
  rw [List.drop_eq_getElem_cons (show i < l.length by omega)]
  have hr : rd l (i : Int) = l[i] := rd_nat l i (by omega)
  have hxx := xor_lt x (rd l i).toNat hx (by omega)
  have h0 := sCheck8_bits l (i : Int) (crc (byte8 x (rd l i)) (l.drop (i + 1))) 0 8 (x ^^^ (rd l i).toNat) hxx rfl (by omega) (by
   rw [w64 (by omega) (by omega)]
   have hb8 : bitn 8 (x ^^^ (rd l i).toNat) = byte8 x (rd l i) := by unfold byte8; rfl
   have hbl := bitn_lt 8 _ hxx
   rw [hb8] at hbl ⊢
   exact ih (i + 1) _ hbl (by omega))
  rw [crc_cons, ← hr]
  exact h0
theorem sCheck8_ev (l : List Int) (hu : U8s l) (hl : l.length ≤ 9223372036854775806) : Ev (fun k => spec_Check8.f k l) (crc 90 l) := by
 unfold spec_Check8.f
 have := sCheck8_l0 l hu hl l.length 0 90 (by omega) (by omega)
 simpa using this

/-- The number form. -/
def numL (x : Nat) : List Int := if h : x < 128 then [(x : Int)] else ((x % 128 + 128 : Nat) : Int) :: numL (x / 128)
termination_by x
decreasing_by omega
theorem numL_small (x : Nat) (h : x < 128) : numL x = [(x : Int)] := by rw [numL, dif_pos h]
theorem numL_big (x : Nat) (h : ¬ x < 128) : numL x = ((x % 128 + 128 : Nat) : Int) :: numL (x / 128) := by rw [numL, dif_neg h]
theorem numL_pos (x : Nat) : 0 < (numL x).length := by
 by_cases h : x < 128
 ·simp [numL_small x h]
 ·simp [numL_big x h]
theorem numL_len (n : Nat) : ∀ x : Nat, x < 128 ^ (n + 1) → (numL x).length ≤ n + 1 := by
 induction n with
 | zero =>
  intro x h
  rw [numL_small x (by simpa using h)]
  simp
 | succ n ih =>
  intro x h
  by_cases c : x < 128
  ·simp [numL_small x c]
  ·rw [numL_big x c, List.length_cons]
   have h2 : x < 128 * 128 ^ (n + 1) := by rw [Nat.pow_succ] at h; omega
   have : x / 128 < 128 ^ (n + 1) := Nat.div_lt_of_lt_mul h2
   have := ih (x / 128) this
   omega
theorem numL_len9 (x : Nat) (h : x < 9223372036854775808) : (numL x).length ≤ 9 := numL_len 8 x (by simpa using h)
theorem numL_mono (y : Nat) : ∀ x : Nat, x ≤ y → (numL x).length ≤ (numL y).length := by
 induction y using Nat.strongRecOn with
 | _ y ih =>
  intro x h
  by_cases c : x < 128
  ·rw [numL_small x c]
   exact numL_pos y
  ·rw [numL_big x c, numL_big y (by omega), List.length_cons, List.length_cons]
   have := ih (y / 128) (by omega) (x / 128) (by omega)
   omega
theorem numL_u8 (y : Nat) : ∀ c ∈ numL y, 0 ≤ c ∧ c ≤ 255 := by
 induction y using Nat.strongRecOn with
 | _ y ih =>
  by_cases c : y < 128
  ·rw [numL_small y c]
   intro d hd
   rw [List.mem_singleton.1 hd]
   omega
  ·rw [numL_big y c]
   intro d hd
   rcases List.mem_cons.1 hd with rfl | hd
   ·omega
   ·exact ih (y / 128) (by omega) d hd
theorem iPutNum_l0 (y : Nat) : ∀ (acc : List Int), y < 9223372036854775808 → acc.length + (numL y).length < 140737488355328 → Ev (fun k => impl_PutNum.l0 k (y : Int) acc) (acc ++ numL y) := by
 induction y using Nat.strongRecOn with
 | _ y ih =>
  intro acc hy hl
  have hp := numL_pos y
  refine Ev.step (fun k => by simp only [impl_PutNum.l0]; rfl) ?_
  by_cases c : y < 128
  ·simp only [show ¬ ((y : Int) ≥ 128) by omega, show acc.length < 140737488355328 by omega, if_true, if_false]
   rw [numL_small y c, show (y : Int) % 256 = y by omega]
   exact Ev.now _
  ·simp only [show (y : Int) ≥ 128 by omega, show acc.length < 140737488355328 by omega, if_true]
   rw [numL_big y c] at hl ⊢
   have e1 : wrap64 (Int.tdiv (y : Int) 128) = ((y / 128 : Nat) : Int) := by
    rw [Int.tdiv_eq_ediv_of_nonneg (by omega), w64 (by omega) (by omega)]
    omega
   have e2 : wrap64 (Int.tmod (y : Int) 128 + 128) % 256 = ((y % 128 + 128 : Nat) : Int) := by
    rw [Int.tmod_eq_emod_of_nonneg (by omega), w64 (by omega) (by omega)]
    omega
   rw [e1, e2]
   rw [List.length_cons] at hl
   have := ih (y / 128) (by omega) (acc ++ [((y % 128 + 128 : Nat) : Int)]) (by omega) (by rw [List.length_append, List.length_singleton]; omega)
   rw [List.append_assoc] at this
   exact this
theorem iPutNum_ev (x : Int) (h0 : 0 ≤ x) (h1 : x ≤ 9223372036854775807) : Ev (fun k => impl_PutNum.f k x) (numL x.toNat) := by
 obtain ⟨y, rfl⟩ := Int.eq_ofNat_of_zero_le h0
 unfold impl_PutNum.f
 simp only [show ¬ ((y : Int) < 0) by omega, if_false]
 have h9 := numL_len9 y (by omega)
 have := iPutNum_l0 y [] (by omega) (by rw [List.length_nil]; omega)
 simpa using this
theorem iPutNum_neg (x : Int) (h : x < 0) : Ev (fun k => impl_PutNum.f k x) [] := by
 unfold impl_PutNum.f
 simp only [h, if_true]
 exact Ev.now _
theorem sPutNum_l0 (y : Nat) : ∀ (acc : List Int), y < 9223372036854775808 → acc.length + (numL y).length < 140737488355328 → Ev (fun k => spec_PutNum.l0 k (y : Int) acc) (acc ++ numL y) := by
 induction y using Nat.strongRecOn with
 | _ y ih =>
  intro acc hy hl
  have hp := numL_pos y
  refine Ev.step (fun k => by simp only [spec_PutNum.l0]; rfl) ?_
  by_cases c : y < 128
  ·simp only [show ¬ ((y : Int) > 127) by omega, show acc.length < 140737488355328 by omega, if_true, if_false]
   rw [numL_small y c, show (y : Int) % 256 = y by omega]
   exact Ev.now _
  ·simp only [show (y : Int) > 127 by omega, show acc.length < 140737488355328 by omega, if_true]
   rw [numL_big y c] at hl ⊢
   have e1 : wrap64 (Int.tdiv (y : Int) 128) = ((y / 128 : Nat) : Int) := by
    rw [Int.tdiv_eq_ediv_of_nonneg (by omega), w64 (by omega) (by omega)]
    omega
   have e2 : wrap64 (Int.tmod (y : Int) 128 + 128) % 256 = ((y % 128 + 128 : Nat) : Int) := by
    rw [Int.tmod_eq_emod_of_nonneg (by omega), w64 (by omega) (by omega)]
    omega
   rw [e1, e2]
   rw [List.length_cons] at hl
   have := ih (y / 128) (by omega) (acc ++ [((y % 128 + 128 : Nat) : Int)]) (by omega) (by rw [List.length_append, List.length_singleton]; omega)
   rw [List.append_assoc] at this
   exact this
theorem sPutNum_ev (x : Int) (h0 : 0 ≤ x) (h1 : x ≤ 9223372036854775807) : Ev (fun k => spec_PutNum.f k x) (numL x.toNat) := by
 obtain ⟨y, rfl⟩ := Int.eq_ofNat_of_zero_le h0
 unfold spec_PutNum.f
 simp only [show ¬ ((y : Int) < 0) by omega, if_false, Option.bind_some]
 have h9 := numL_len9 y (by omega)
 have := sPutNum_l0 y [] (by omega) (by rw [List.length_nil]; omega)
 simpa using this
theorem sPutNum_neg (x : Int) (h : x < 0) : Ev (fun k => spec_PutNum.f k x) [] := by
 unfold spec_PutNum.f
 simp only [h, if_true, Option.bind_some]
 exact Ev.now _
/-- What marking writes. -/
def mkB (m n : Nat) : List Int := (List.range n).map fun j => ((m + j : Nat) : Int) % 256
theorem mkB_len (m n : Nat) : (mkB m n).length = n := by simp [mkB]
theorem mkB_succ (m n : Nat) : mkB m (n + 1) = mkB m n ++ [((m + n : Nat) : Int) % 256] := by simp [mkB, List.range_succ]
theorem mkB_get (m n i : Nat) (h : i < n) : rd (mkB m n) (i : Int) = ((m + i : Nat) : Int) % 256 := by
 rw [rd_nat _ i (by rw [mkB_len]; exact h)]
 simp [mkB]
theorem markB_l0 (l : List Int) (m : Nat) (hl : m + l.length ≤ 9223372036854775806) (d : Nat) : ∀ i : Nat, i + d = l.length →
  Ev (fun k => laws_markByteS.l0 k (mkB m i ++ l.drop i) ((m + i : Nat) : Int) (i : Int)) (((m + l.length : Nat) : Int), mkB m l.length) := by
 induction d with
 | zero =>
  intro i hi
  refine Ev.step (fun k => by simp only [laws_markByteS.l0]; rfl) ?_
  have hlen : (mkB m i ++ l.drop i).length = l.length := by rw [List.length_append, mkB_len, List.length_drop]; omega
  rw [hlen]
  simp only [show ¬ ((i : Int) < (l.length : Int)) by omega, if_false]
  have : i = l.length := by omega
  subst this
  rw [List.drop_length, List.append_nil]
  exact Ev.now _
 | succ d ih =>
  intro i hi
  refine Ev.step (fun k => by simp only [laws_markByteS.l0]; rfl) ?_
  have hlen : (mkB m i ++ l.drop i).length = l.length := by rw [List.length_append, mkB_len, List.length_drop]; omega
  rw [hlen]
  simp only [show (i : Int) < (l.length : Int) by omega, show (0 : Int) ≤ (i : Int) by omega, if_true, Int.toNat_natCast]
  have e : (mkB m i ++ l.drop i).set i (((m + i : Nat) : Int) % 256) = mkB m (i + 1) ++ l.drop (i + 1) := by
   rw [List.set_append_right _ _ (by rw [mkB_len]; exact Nat.le_refl i), mkB_len, Nat.sub_self, List.drop_eq_getElem_cons (by omega), List.set_cons_zero, mkB_succ, List.append_assoc]
   rfl
  rw [e, w64 (by omega) (by omega), w64 (by omega) (by omega)]
  exact ih (i + 1) (by omega)
theorem markB_ev (l : List Int) (m : Nat) (hl : m + l.length ≤ 9223372036854775806) : Ev (fun k => laws_markByteS.f k l (m : Int)) (((m + l.length : Nat) : Int), mkB m l.length) := by
 unfold laws_markByteS.f
 have := markB_l0 l m hl l.length 0 (by omega)
 simpa [mkB] using this
theorem heldB_l0 (m n : Nat) (hl : m + n ≤ 9223372036854775806) (d : Nat) : ∀ i : Nat, i + d = n → Ev (fun k => laws_heldByteS.l0 k (mkB m n) ((m + i : Nat) : Int) (i : Int)) ((m + n : Nat) : Int) := by
 induction d with
 | zero =>
  intro i hi
  refine Ev.step (fun k => by simp only [laws_heldByteS.l0]; rfl) ?_
  rw [mkB_len]
  simp only [show ¬ ((i : Int) < (n : Int)) by omega, if_false]
  have : i = n := by omega
  subst this
  exact Ev.now _
 | succ d ih =>
  intro i hi
  refine Ev.step (fun k => by simp only [laws_heldByteS.l0]; rfl) ?_
  rw [mkB_len, mkB_get m n i (by omega)]
  simp only [show (i : Int) < (n : Int) by omega, show (0 : Int) ≤ (i : Int) by omega, if_true]
  rw [w64 (by omega) (by omega), w64 (by omega) (by omega)]
  exact ih (i + 1) (by omega)
theorem heldB_ev (m n : Nat) (hl : m + n ≤ 9223372036854775806) : Ev (fun k => laws_heldByteS.f k (mkB m n) (m : Int)) ((m + n : Nat) : Int) := by
 unfold laws_heldByteS.f
 have := heldB_l0 m n hl n 0 (by omega)
 simpa using this
/-- When a message is one. -/
def msgOk (kind frm tq nonce lo hi slot : Int) (body : ByteArray) : Bool :=
 decide (0 ≤ frm ∧ frm ≤ 7 ∧ ((kind = 3 ∧ 0 ≤ slot ∧ slot ≤ 15 ∧ body.size ≤ 24 ∧ tq = 0 ∧ nonce = 0 ∧ lo = 0 ∧ hi = 0) ∨
  (kind ≠ 3 ∧ 0 ≤ tq ∧ tq ≤ 7 ∧ frm ≠ tq ∧ 0 ≤ nonce ∧ nonce ≤ 100000999 ∧ slot = 0 ∧ body.size = 0 ∧ ((kind = 1 ∧ lo = 0 ∧ hi = 0) ∨ (kind = 2 ∧ -1000000000000 ≤ lo ∧ lo ≤ hi ∧ hi ≤ 1000000000000)))))
theorem empty_iff (s : ByteArray) : s.toList = [] ↔ s.size = 0 := by
 rw [ByteArray.toList_eq, ← List.length_eq_zero_iff]
 rfl
theorem isNode_eq (a : Int) : impl_isNode.f a = some (decide (0 ≤ a ∧ a ≤ 7)) := by
 unfold impl_isNode.f
 rw [in_eq]
 rfl
theorem iMsgOk_eq (kind frm tq nonce lo hi slot : Int) (body : ByteArray) : impl_MsgOk.f kind frm tq nonce lo hi slot body = some (msgOk kind frm tq nonce lo hi slot body) := by
 unfold impl_MsgOk.f msgOk
 simp only [isNode_eq, in_eq, iIvalOk_eq, Option.bind_some, decide_eq_true_eq, empty_iff]
 by_cases c1 : 0 ≤ frm ∧ frm ≤ 7
 ·rw [if_pos c1]
  by_cases c2 : kind = 3
  ·rw [if_pos c2]
   subst c2
   by_cases c3 : 0 ≤ slot ∧ slot ≤ 15
   ·rw [if_pos c3]
    by_cases c4 : (body.size : Int) ≤ 24
    ·rw [if_pos c4]
     simp only [Option.some.injEq]
     rw [Bool.eq_iff_iff]
     simp
     omega
    ·rw [if_neg c4]
     simp only [Option.some.injEq]
     exact (decide_eq_false (by omega)).symm
   ·rw [if_neg c3]
    simp only [Option.some.injEq]
    exact (decide_eq_false (by omega)).symm
  ·rw [if_neg c2]
   repeat' split
   all_goals (simp only [Option.some.injEq]; try simp only [Bool.and_eq_true, beq_iff_eq] at *)
   all_goals first | exact (decide_eq_false (by omega)).symm | exact (decide_eq_true (by omega)).symm | (rw [decide_eq_decide]; omega)
 ·rw [if_neg c1]
  simp only [Option.some.injEq]
  exact (decide_eq_false (by omega)).symm
theorem l4Node_eq (a : Int) : spec_l4Node.f a = some (decide (0 ≤ a ∧ a ≤ 7)) := by
 unfold spec_l4Node.f
 rw [l1In_eq]
 rfl
theorem empty_beq (s : ByteArray) : (s.toList == ([] : List UInt8)) = decide (s.size = 0) := by
 rw [Bool.eq_iff_iff, beq_iff_eq, decide_eq_true_eq]
 exact empty_iff s
theorem j1_eq (k : Nat) (b : Bool) (kind frm tq nonce lo hi slot : Int) (body : ByteArray) : spec_MsgOk.j1 (k + 1) b kind frm tq nonce lo hi slot body =
  some (decide ((kind = 1 ∧ b = true ∧ lo = 0 ∧ hi = 0) ∨ (kind = 2 ∧ b = true ∧ -1000000000000 ≤ lo ∧ lo ≤ hi ∧ hi ≤ 1000000000000) ∨ (kind = 3 ∧ tq = 0 ∧ nonce = 0 ∧ lo = 0 ∧ hi = 0 ∧ 0 ≤ slot ∧ slot ≤ 15))) := by
 simp only [spec_MsgOk.j1, l1In_eq, sIvalOk_eq, Option.bind_some]
 by_cases k1 : kind = 1
 ·subst k1
  cases b
  ·simp
  ·simp only [if_true, Option.some.injEq]
   rw [Bool.eq_iff_iff]
   simp
 ·by_cases k2 : kind = 2
  ·subst k2
   cases b
   ·simp
   ·simp
  ·by_cases k3 : kind = 3
   ·subst k3
    by_cases c1 : tq = 0
    ·by_cases c2 : nonce = 0
     ·by_cases c3 : lo = 0
      ·by_cases c4 : hi = 0
       ·simp [c1, c2, c3, c4]
       ·simp [c1, c2, c3, c4]
      ·simp [c1, c2, c3]
     ·simp [c1, c2]
    ·simp [c1]
   ·simp [k1, k2, k3]
theorem sMsgOk_eq2 (k : Nat) (kind frm tq nonce lo hi slot : Int) (body : ByteArray) : spec_MsgOk.f (k + 2) kind frm tq nonce lo hi slot body = some (msgOk kind frm tq nonce lo hi slot body) := by
 unfold spec_MsgOk.f msgOk
 simp only [spec_MsgOk.j0, j1_eq, l4Node_eq, l1In_eq, Option.bind_some, decide_eq_true_eq, empty_beq, if_true]
 by_cases c1 : 0 ≤ frm ∧ frm ≤ 7
 ·rw [if_pos c1]
  by_cases c2 : (body.size : Int) > 24
  ·rw [if_pos c2]
   simp only [Option.some.injEq]
   exact (decide_eq_false (by omega)).symm
  ·rw [if_neg c2]
   by_cases c3 : 0 ≤ tq ∧ tq ≤ 7
   ·rw [if_pos c3]
    by_cases c4 : tq = frm
    ·rw [if_pos c4]
     simp only [Option.some.injEq, decide_eq_decide, Bool.false_eq_true, false_and, and_false, false_or]
     omega
    ·rw [if_neg c4]
     by_cases c5 : 0 ≤ nonce ∧ nonce ≤ 100000999
     ·rw [if_pos c5]
      by_cases c6 : slot = 0
      ·rw [if_pos c6]
       simp only [Option.some.injEq, decide_eq_decide]
       omega
      ·rw [if_neg c6]
       simp only [Option.some.injEq, decide_eq_decide, Bool.false_eq_true, false_and, and_false, false_or]
       omega
     ·rw [if_neg c5]
      simp only [Option.some.injEq, decide_eq_decide, Bool.false_eq_true, false_and, and_false, false_or]
      omega
   ·rw [if_neg c3]
    simp only [Option.some.injEq, decide_eq_decide, Bool.false_eq_true, false_and, and_false, false_or]
    omega
 ·rw [if_neg c1]
  simp only [Option.some.injEq]
  exact (decide_eq_false (by omega)).symm
theorem toMsg_eq (a b c d e f g : Int) (s : ByteArray) : laws_toMsg.f a b c d e f g s = some (a, b, c, d, e, f, g, s) := by
 unfold laws_toMsg.f
 rfl
theorem ev_if {α : Type} {c : Prop} [Decidable c] {f g : Nat → Option α} {r : α} (hc : c) (h : Ev f r) : Ev (fun k => if c then f k else g k) r := by
 simp only [hc, if_true]
 exact h
theorem ev_ifn {α : Type} {c : Prop} [Decidable c] {f g : Nat → Option α} {r : α} (hc : ¬ c) (h : Ev g r) : Ev (fun k => if c then f k else g k) r := by
 simp only [hc, if_false]
 exact h
theorem ev2 {α : Type} {g : Nat → Option α} {r : α} (h : ∀ k, g (k + 2) = some r) : Ev g r := ⟨2, fun k hk => by obtain ⟨m, rfl⟩ : ∃ m, k = m + 2 := ⟨k - 2, by omega⟩; exact h m⟩
def fold (x : Int) : Int := if x < 0 then -2 * x - 1 else 2 * x
theorem fold_bd {x : Int} (h : -1000000000000 ≤ x ∧ x ≤ 1000000000000) : 0 ≤ fold x ∧ fold x ≤ 2000000000000 := by unfold fold; omega
theorem iFold_eq {x : Int} (h : -1000000000000 ≤ x ∧ x ≤ 1000000000000) : impl_Fold.f x = some (fold x) := by
 unfold impl_Fold.f fold
 simp only [in_eq, Option.bind_some, h, and_self, decide_true, if_true]
 by_cases c : x < 0
 ·rw [if_pos c, if_pos c, w64 (x := -2 * x) (by omega) (by omega), w64 (by omega) (by omega)]
 ·rw [if_neg c, if_neg c, w64 (by omega) (by omega)]
theorem sFold_eq {x : Int} (h : -1000000000000 ≤ x ∧ x ≤ 1000000000000) : spec_Fold.f x = some (fold x) := by
 unfold spec_Fold.f fold
 simp only [l1In_eq, Option.bind_some, h, and_self, decide_true, if_true]
 by_cases c : x < 0
 ·rw [if_pos c, if_pos c, w64 (x := -2 * x) (by omega) (by omega), w64 (by omega) (by omega)]
 ·rw [if_neg c, if_neg c, w64 (by omega) (by omega)]
theorem u8_of {c : Int} (h : 0 ≤ c ∧ c ≤ 255) : (Lit.int .u8 c).wf = true := by
 simp [Lit.wf, IntKind.min, IntKind.max, IntKind.signed, IntKind.bits]
 omega
theorem bytes_u8 (b : ByteArray) : ∀ c ∈ bytesOf b, 0 ≤ c ∧ c ≤ 255 := by
 intro c hc
 unfold bytesOf at hc
 obtain ⟨u, _, rfl⟩ := List.mem_map.1 hc
 have := u.toNat_lt
 constructor
 ·exact Int.natCast_nonneg _
 ·have : u.toNat < 256 := u.toNat_lt
  omega
/-- A message's form, but for its check. -/
def packE (kind frm tq nonce lo hi slot : Int) (body : ByteArray) : List Int :=
 if kind = 2 then ((if kind = 3 then (([kind % 256] ++ numL frm.toNat) ++ numL slot.toNat) ++ numL (body.size : Int).toNat ++ bytesOf body else (([kind % 256] ++ numL frm.toNat) ++ numL tq.toNat) ++ numL nonce.toNat) ++ numL (fold lo).toNat) ++ numL (fold hi).toNat
 else (if kind = 3 then (([kind % 256] ++ numL frm.toNat) ++ numL slot.toNat) ++ numL (body.size : Int).toNat ++ bytesOf body else (([kind % 256] ++ numL frm.toNat) ++ numL tq.toNat) ++ numL nonce.toNat)
def packB (kind frm tq nonce lo hi slot : Int) (body : ByteArray) : List Int := packE kind frm tq nonce lo hi slot body ++ [(crc 90 (packE kind frm tq nonce lo hi slot body) : Int) % 256]
theorem msgOk_iff {kind frm tq nonce lo hi slot : Int} {body : ByteArray} : msgOk kind frm tq nonce lo hi slot body = true ↔ (0 ≤ frm ∧ frm ≤ 7 ∧ ((kind = 3 ∧ 0 ≤ slot ∧ slot ≤ 15 ∧ body.size ≤ 24 ∧ tq = 0 ∧ nonce = 0 ∧ lo = 0 ∧ hi = 0) ∨
  (kind ≠ 3 ∧ 0 ≤ tq ∧ tq ≤ 7 ∧ frm ≠ tq ∧ 0 ≤ nonce ∧ nonce ≤ 100000999 ∧ slot = 0 ∧ body.size = 0 ∧ ((kind = 1 ∧ lo = 0 ∧ hi = 0) ∨ (kind = 2 ∧ -1000000000000 ≤ lo ∧ lo ≤ hi ∧ hi ≤ 1000000000000))))) := by
 unfold msgOk
 exact decide_eq_true_iff
theorem num9 {x : Int} (h0 : 0 ≤ x) (h1 : x ≤ 9223372036854775807) : (numL x.toNat).length ≤ 9 := numL_len9 _ (by omega)
theorem u8s_app {a b : List Int} (h1 : U8s a) (h2 : U8s b) : U8s (a ++ b) := by
 intro c hc
 rcases List.mem_append.1 hc with h | h
 ·exact h1 c h
 ·exact h2 c h
theorem packE_u8 (kind frm tq nonce lo hi slot : Int) (body : ByteArray) : U8s (packE kind frm tq nonce lo hi slot body) := by
 have hn : ∀ n, U8s (numL n) := fun n c hc => u8_of (numL_u8 n c hc)
 have hb : U8s (bytesOf body) := fun c hc => u8_of (bytes_u8 body c hc)
 have hk : U8s [kind % 256] := by
  intro c hc
  rw [List.mem_singleton] at hc
  rw [hc]
  exact u8_of (by omega)
 unfold packE
 split <;> split <;> repeat' (first | exact hn _ | exact hb | exact hk | apply u8s_app)
theorem packE_len {kind frm tq nonce lo hi slot : Int} {body : ByteArray} (h : msgOk kind frm tq nonce lo hi slot body = true) : (packE kind frm tq nonce lo hi slot body).length ≤ 1000 := by
 have g := msgOk_iff.1 h
 have a1 := num9 g.1 (by omega)
 have a2 := num9 (x := tq) (by omega) (by omega)
 have a3 := num9 (x := nonce) (by omega) (by omega)
 have a4 := num9 (x := slot) (by omega) (by omega)
 have a5 := num9 (x := (body.size : Int)) (by omega) (by omega)
 have b1 := fold_bd (x := lo) (by omega)
 have b2 := fold_bd (x := hi) (by omega)
 have a6 := num9 (x := fold lo) b1.1 (by omega)
 have a7 := num9 (x := fold hi) b2.1 (by omega)
 unfold packE
 split <;> split <;> simp only [List.length_append, List.length_cons, List.length_nil, bytesOf_length] <;> omega
theorem packB_len {kind frm tq nonce lo hi slot : Int} {body : ByteArray} (h : msgOk kind frm tq nonce lo hi slot body = true) : (packB kind frm tq nonce lo hi slot body).length ≤ 1001 := by
 unfold packB
 rw [List.length_append]
 have := packE_len h
 simp only [List.length_cons, List.length_nil]
 omega
theorem iPack_j0 {kind frm tq nonce lo hi slot : Int} {body : ByteArray} (h : msgOk kind frm tq nonce lo hi slot body = true) :
  Ev (fun k => impl_Msg_pack.j0 k (if kind = 3 then (([kind % 256] ++ numL frm.toNat) ++ numL slot.toNat) ++ numL (body.size : Int).toNat ++ bytesOf body else (([kind % 256] ++ numL frm.toNat) ++ numL tq.toNat) ++ numL nonce.toNat) kind frm tq nonce lo hi slot body) (packB kind frm tq nonce lo hi slot body) := by
 have g := msgOk_iff.1 h
 have hu := packE_u8 kind frm tq nonce lo hi slot body
 have hl := packE_len h
 have b1 := fold_bd (x := lo) (by omega)
 have b2 := fold_bd (x := hi) (by omega)
 have a6 := num9 (x := fold lo) b1.1 (by omega)
 have a7 := num9 (x := fold hi) b2.1 (by omega)
 refine Ev.step (fun k => by simp only [impl_Msg_pack.j0]; rfl) ?_
 unfold packB
 unfold packE at hu hl ⊢
 by_cases c2 : kind = 2
 ·rw [if_pos c2] at hu hl ⊢
  refine ev_if c2 ?_
  generalize (if kind = 3 then (([kind % 256] ++ numL frm.toNat) ++ numL slot.toNat) ++ numL (body.size : Int).toNat ++ bytesOf body else (([kind % 256] ++ numL frm.toNat) ++ numL tq.toNat) ++ numL nonce.toNat) = m at *
  rw [List.length_append, List.length_append] at hl
  simp only [iFold_eq (x := lo) (by omega), iFold_eq (x := hi) (by omega), Option.bind_some]
  refine Ev.bind (iPutNum_ev _ b1.1 (by omega)) ?_
  refine ev_if (by omega) ?_
  refine Ev.bind (iPutNum_ev _ b2.1 (by omega)) ?_
  refine ev_if (by rw [List.length_append]; omega) ?_
  refine Ev.bind (iCheck8_ev _ hu (by simp only [List.length_append]; omega)) ?_
  refine ev_if (by simp only [List.length_append]; omega) ?_
  exact Ev.now _
 ·rw [if_neg c2] at hu hl ⊢
  refine ev_ifn c2 ?_
  refine Ev.bind (iCheck8_ev _ hu (by omega)) ?_
  refine ev_if (by omega) ?_
  exact Ev.now _
theorem iMsgpack_ev {kind frm tq nonce lo hi slot : Int} {body : ByteArray} (h : msgOk kind frm tq nonce lo hi slot body = true) : Ev (fun k => impl_Msg_pack.f k kind frm tq nonce lo hi slot body) (packB kind frm tq nonce lo hi slot body) := by
 have g := msgOk_iff.1 h
 have a1 := num9 g.1 (by omega)
 have a2 := num9 (x := tq) (by omega) (by omega)
 have a3 := num9 (x := nonce) (by omega) (by omega)
 have a4 := num9 (x := slot) (by omega) (by omega)
 have a5 := num9 (x := (body.size : Int)) (by omega) (by omega)
 have hj := iPack_j0 h
 unfold impl_Msg_pack.f
 simp only [Option.bind_some]
 refine Ev.bind (iPutNum_ev _ g.1 (by omega)) ?_
 refine ev_if (by simp only [List.length_cons, List.length_nil]; omega) ?_
 by_cases c3 : kind = 3
 ·rw [if_pos c3] at hj
  refine ev_if c3 ?_
  refine Ev.bind (iPutNum_ev slot (by omega) (by omega)) ?_
  refine ev_if (by simp only [List.length_append, List.length_cons, List.length_nil]; omega) ?_
  refine Ev.bind (iPutNum_ev (body.size : Int) (by omega) (by omega)) ?_
  refine ev_if (by simp only [List.length_append, List.length_cons, List.length_nil]; omega) ?_
  refine ev_if (by simp only [List.length_append, List.length_cons, List.length_nil]; omega) ?_
  exact hj
 ·rw [if_neg c3] at hj
  refine ev_ifn c3 ?_
  refine Ev.bind (iPutNum_ev tq (by omega) (by omega)) ?_
  refine ev_if (by simp only [List.length_append, List.length_cons, List.length_nil]; omega) ?_
  refine Ev.bind (iPutNum_ev nonce (by omega) (by omega)) ?_
  refine ev_if (by simp only [List.length_append, List.length_cons, List.length_nil]; omega) ?_
  exact hj
theorem iPack_ev (kind frm tq nonce lo hi slot : Int) (body : ByteArray) : Ev (fun k => impl_Pack.f k kind frm tq nonce lo hi slot body) (if msgOk kind frm tq nonce lo hi slot body = true then (packB kind frm tq nonce lo hi slot body, true) else ([], false)) := by
 unfold impl_Pack.f
 simp only [iMsgOk_eq, Option.bind_some]
 by_cases h : msgOk kind frm tq nonce lo hi slot body = true
 ·rw [if_pos h]
  refine ev_if h ?_
  refine Ev.bind (iMsgpack_ev h) ?_
  exact Ev.now _
 ·rw [if_neg h]
  refine ev_ifn h ?_
  exact Ev.now _
theorem sPack_j0 {kind frm tq nonce lo hi slot : Int} {body : ByteArray} (h : msgOk kind frm tq nonce lo hi slot body = true) :
  Ev (fun k => spec_Pack.j0 k (if kind = 3 then (([kind % 256] ++ numL frm.toNat) ++ numL slot.toNat) ++ numL (body.size : Int).toNat ++ bytesOf body else (([kind % 256] ++ numL frm.toNat) ++ numL tq.toNat) ++ numL nonce.toNat) kind frm tq nonce lo hi slot body) (packB kind frm tq nonce lo hi slot body, true) := by
 have g := msgOk_iff.1 h
 have hu := packE_u8 kind frm tq nonce lo hi slot body
 have hl := packE_len h
 have b1 := fold_bd (x := lo) (by omega)
 have b2 := fold_bd (x := hi) (by omega)
 have a6 := num9 (x := fold lo) b1.1 (by omega)
 have a7 := num9 (x := fold hi) b2.1 (by omega)
 refine Ev.step (fun k => by simp only [spec_Pack.j0]; rfl) ?_
 unfold packB
 unfold packE at hu hl ⊢
 by_cases c2 : kind = 2
 ·rw [if_pos c2] at hu hl ⊢
  refine ev_if c2 ?_
  generalize (if kind = 3 then (([kind % 256] ++ numL frm.toNat) ++ numL slot.toNat) ++ numL (body.size : Int).toNat ++ bytesOf body else (([kind % 256] ++ numL frm.toNat) ++ numL tq.toNat) ++ numL nonce.toNat) = m at *
  rw [List.length_append, List.length_append] at hl
  simp only [sFold_eq (x := lo) (by omega), sFold_eq (x := hi) (by omega), Option.bind_some]
  refine Ev.bind (sPutNum_ev _ b1.1 (by omega)) ?_
  refine ev_if (by omega) ?_
  refine Ev.bind (sPutNum_ev _ b2.1 (by omega)) ?_
  refine ev_if (by rw [List.length_append]; omega) ?_
  refine Ev.bind (sCheck8_ev _ hu (by simp only [List.length_append]; omega)) ?_
  refine ev_if (by simp only [List.length_append]; omega) ?_
  exact Ev.now _
 ·rw [if_neg c2] at hu hl ⊢
  refine ev_ifn c2 ?_
  refine Ev.bind (sCheck8_ev _ hu (by omega)) ?_
  refine ev_if (by omega) ?_
  exact Ev.now _
theorem sPack_ev (kind frm tq nonce lo hi slot : Int) (body : ByteArray) : Ev (fun k => spec_Pack.f k kind frm tq nonce lo hi slot body) (if msgOk kind frm tq nonce lo hi slot body = true then (packB kind frm tq nonce lo hi slot body, true) else ([], false)) := by
 unfold spec_Pack.f
 refine Ev.bind (ev2 fun k => sMsgOk_eq2 k _ _ _ _ _ _ _ _) ?_
 by_cases h : msgOk kind frm tq nonce lo hi slot body = true
 ·rw [if_pos h]
  refine ev_if h ?_
  have g := msgOk_iff.1 h
  have a1 := num9 g.1 (by omega)
  have a2 := num9 (x := tq) (by omega) (by omega)
  have a3 := num9 (x := nonce) (by omega) (by omega)
  have a4 := num9 (x := slot) (by omega) (by omega)
  have a5 := num9 (x := (body.size : Int)) (by omega) (by omega)
  have hj := sPack_j0 h
  simp only [Option.bind_some]
  refine Ev.bind (sPutNum_ev _ g.1 (by omega)) ?_
  refine ev_if (by simp only [List.length_cons, List.length_nil]; omega) ?_
  by_cases c3 : kind = 3
  ·rw [if_pos c3] at hj
   refine ev_if c3 ?_
   refine Ev.bind (sPutNum_ev slot (by omega) (by omega)) ?_
   refine ev_if (by simp only [List.length_append, List.length_cons, List.length_nil]; omega) ?_
   refine Ev.bind (sPutNum_ev (body.size : Int) (by omega) (by omega)) ?_
   refine ev_if (by simp only [List.length_append, List.length_cons, List.length_nil]; omega) ?_
   refine ev_if (by simp only [List.length_append, List.length_cons, List.length_nil]; omega) ?_
   exact hj
  ·rw [if_neg c3] at hj
   refine ev_ifn c3 ?_
   refine Ev.bind (sPutNum_ev tq (by omega) (by omega)) ?_
   refine ev_if (by simp only [List.length_append, List.length_cons, List.length_nil]; omega) ?_
   refine Ev.bind (sPutNum_ev nonce (by omega) (by omega)) ?_
   refine ev_if (by simp only [List.length_append, List.length_cons, List.length_nil]; omega) ?_
   exact hj
 ·rw [if_neg h]
  refine ev_ifn h ?_
  exact Ev.now _

abbrev MS := S32
theorem rdMs_nat (l : List MS) (i : Nat) (hi : i < l.length) : rd_T32 l (i : Int) = l[i] := by
 unfold rd_T32
 rw [List.getD_eq_getElem?_getD]
 simp [List.getElem?_eq_getElem hi]
theorem eqMsg_self (a b c d e f g : Int) (s : ByteArray) : laws_eqMsg.f a b c d e f g s a b c d e f g s = some true := by
 unfold laws_eqMsg.f
 simp [eqIval_self]
theorem rdLMs_nat (l : List S25) (i : Nat) (hi : i < l.length) : rd_T25 l (i : Int) = l[i] := by
 unfold rd_T25
 rw [List.getD_eq_getElem?_getD]
 simp [List.getElem?_eq_getElem hi]
def cvMs (x : S25) : MS := ⟨x.f0, x.f1, x.f2, x.f3, ⟨x.f4.f0, x.f4.f1⟩, x.f5, x.f6⟩
theorem cvMs_set (l : List S25) (i : Nat) (h : i < l.length) (z : MS) : ((l.take i).map cvMs ++ List.replicate (l.length - i) z).set i (cvMs l[i]) = (l.take (i + 1)).map cvMs ++ List.replicate (l.length - (i + 1)) z := by
 have e : l.length - i = (l.length - (i + 1)) + 1 := by omega
 have e2 : ((l.take i).map cvMs).length = i := by rw [List.length_map, List.length_take]; omega
 rw [e, List.replicate_succ, List.set_append_right _ _ (by omega), e2, Nat.sub_self, List.set_cons_zero, List.take_succ_eq_append_getElem h, List.map_append, List.append_assoc]
 rfl
theorem toMsgS_l0 (l : List S25) (hl : l.length ≤ 9223372036854775806) (z : MS) (d : Nat) : ∀ i : Nat, i + d = l.length → Ev (fun k => laws_toMsgS.l0 k l ((l.take i).map cvMs ++ List.replicate (l.length - i) z) i) (l.map cvMs) := by
 induction d with
 | zero =>
  intro i hi
  refine Ev.step (fun k => by simp only [laws_toMsgS.l0]; rfl) ?_
  simp only [show ¬ ((i : Int) < (l.length : Int)) by omega, if_false]
  rw [List.take_of_length_le (by omega), show l.length - i = 0 by omega]
  simpa using Ev.now (l.map cvMs)
 | succ d ih =>
  intro i hi
  refine Ev.step (fun k => by simp only [laws_toMsgS.l0]; rfl) ?_
  have hlen : ((l.take i).map cvMs ++ List.replicate (l.length - i) z).length = l.length := by
   rw [List.length_append, List.length_map, List.length_take, List.length_replicate]
   omega
  rw [hlen]
  simp only [show (i : Int) < (l.length : Int) by omega, show (0 : Int) ≤ (i : Int) by omega, if_true, Int.toNat_natCast, toMsg_eq, Option.bind_some]
  rw [rdLMs_nat l i (by omega), w64 (by omega) (by omega)]
  have := ih (i + 1) (by omega)
  rw [← cvMs_set l i (by omega) z] at this
  exact this
theorem toMsgS_ev (l : List S25) (hl : l.length ≤ 1048576) : Ev (fun k => laws_toMsgS.f k l) (l.map cvMs) := by
 unfold laws_toMsgS.f
 simp only [show (0 : Int) ≤ (l.length : Int) by omega, Int.toNat_natCast, show l.length ≤ 3909374676536 by omega, if_true]
 have := toMsgS_l0 l (by omega) z32 l.length 0 (by omega)
 simpa using this
theorem eqMsgS_l0 (l : List MS) (hl : l.length ≤ 9223372036854775806) (d : Nat) : ∀ i : Nat, i + d = l.length → Ev (fun k => laws_eqMsgS.l0 k l l i) true := by
 induction d with
 | zero =>
  intro i hi
  refine Ev.step (fun k => by simp only [laws_eqMsgS.l0]; rfl) ?_
  simp only [show ¬ ((i : Int) < (l.length : Int)) by omega, if_false]
  exact Ev.now true
 | succ d ih =>
  intro i hi
  refine Ev.step (fun k => by simp only [laws_eqMsgS.l0]; rfl) ?_
  simp only [show (i : Int) < (l.length : Int) by omega, show (0 : Int) ≤ (i : Int) by omega, if_true, eqMsg_self, Option.bind_some]
  rw [w64 (by omega) (by omega)]
  exact ih (i + 1) (by omega)
theorem eqMsgS_ev (l : List MS) (hl : l.length ≤ 9223372036854775806) : Ev (fun k => laws_eqMsgS.f k l l) true := by
 unfold laws_eqMsgS.f
 simp only [if_true]
 exact eqMsgS_l0 l hl l.length 0 (by omega)
theorem szMsg_ok (a b c d e f g : Int) (s : ByteArray) (n : Int) : ∃ t, laws_szMsg.f a b c d e f g s n = some t := by
 unfold laws_szMsg.f
 split <;> exact ⟨_, rfl⟩
theorem szMsgS_l0 (l : List S25) (hl : l.length ≤ 9223372036854775806) (d : Nat) : ∀ (i : Nat) (x : Int), i + d = l.length → ∃ t, Ev (fun k => laws_szMsgS.l0 k l x (i : Int)) t := by
 induction d with
 | zero =>
  intro i x h
  refine ⟨x, Ev.step (fun k => by simp only [laws_szMsgS.l0]; rfl) ?_⟩
  simp only [show ¬ ((i : Int) < (l.length : Int)) by omega, if_false]
  exact Ev.now _
 | succ d ih =>
  intro i x h
  obtain ⟨m, hm⟩ : ∃ m, rd_T25 l (i : Int) = m := ⟨_, rfl⟩
  obtain ⟨t, ht⟩ := szMsg_ok m.f0 m.f1 m.f2 m.f3 m.f4.f0 m.f4.f1 m.f5 m.f6 x
  by_cases c : t < 0
  ·refine ⟨-1, Ev.step (fun k => by simp only [laws_szMsgS.l0]; rfl) ?_⟩
   simp only [show (i : Int) < (l.length : Int) by omega, show (0 : Int) ≤ (i : Int) by omega, if_true, hm, ht, Option.bind_some, c]
   exact Ev.now _
  ·obtain ⟨r, hr⟩ := ih (i + 1) t (by omega)
   refine ⟨r, Ev.step (fun k => by simp only [laws_szMsgS.l0]; rfl) ?_⟩
   simp only [show (i : Int) < (l.length : Int) by omega, show (0 : Int) ≤ (i : Int) by omega, if_true, hm, ht, Option.bind_some, c, if_false]
   rw [w64 (by omega) (by omega)]
   exact hr
theorem szMsgS_ev (l : List S25) (hm : l.length ≤ 9223372036854775807) : ∃ t, Ev (fun k => laws_szMsgS.f k l 1048576) t ∧ (¬ t < 0 → l.length ≤ 1048576) := by
 unfold laws_szMsgS.f
 rw [w64 (x := 1048576 - (l.length : Int)) (by omega) (by omega)]
 by_cases c : 1048576 - (l.length : Int) < 0
 ·simp only [c, if_true]
  exact ⟨-1, Ev.now _, by omega⟩
 ·simp only [c, if_false]
  obtain ⟨t, ht⟩ := szMsgS_l0 l (by omega) l.length 0 (1048576 - (l.length : Int)) (by omega)
  exact ⟨t, ht, fun _ => by omega⟩
theorem markText_l0 (n : Nat) (hn : n ≤ 19) : ∀ (x : Int) (s : ByteArray), 0 ≤ x → x < 10 ^ n → x ≤ 9223372036854775807 → s.size + n ≤ 100 → ∃ r, Ev (fun k => laws_markText.l0 k x s) r := by
 induction n with
 | zero =>
  intro x s h0 h1 h2 hs
  have : x = 0 := by
   simp at h1
   omega
  refine ⟨(⟨#[109]⟩ : ByteArray) ++ s, Ev.step (fun k => by simp only [laws_markText.l0]; rfl) ?_⟩
  simp only [show ¬ (x > 0) by omega, if_false, show 1 + s.size ≤ 9223372036854775807 by omega, if_true]
  exact Ev.now _
 | succ n ih =>
  intro x s h0 h1 h2 hs
  by_cases c : x > 0
  ·have hd : Int.tdiv x 10 = x / 10 := Int.tdiv_eq_ediv_of_nonneg h0
   have hx : x / 10 < 10 ^ n := by
    rw [Int.pow_succ] at h1
    omega
   have hsz : (strOfNums [(wrap64 (48 + (Int.tmod x 10))) % 256]).size = 1 := rfl
   obtain ⟨r, hr⟩ := ih (by omega) (x / 10) (strOfNums [(wrap64 (48 + (Int.tmod x 10))) % 256] ++ s) (by omega) hx (by omega) (by rw [ByteArray.size_append, hsz]; omega)
   refine ⟨r, Ev.step (fun k => by simp only [laws_markText.l0]; rfl) ?_⟩
   simp only [c, if_true, Option.bind_some, hsz, show 1 + s.size ≤ 9223372036854775807 by omega]
   rw [hd, w64 (x := x / 10) (by omega) (by omega)]
   exact hr
  ·refine ⟨(⟨#[109]⟩ : ByteArray) ++ s, Ev.step (fun k => by simp only [laws_markText.l0]; rfl) ?_⟩
   simp only [c, if_false, show 1 + s.size ≤ 9223372036854775807 by omega, if_true]
   exact Ev.now _
theorem markText_ev (x : Int) (h2 : x ≤ 9223372036854775807) : ∃ r, Ev (fun k => laws_markText.f k x) r := by
 unfold laws_markText.f
 by_cases c : x ≤ 0
 ·simp only [c, if_true]
  exact ⟨_, Ev.now _⟩
 ·simp only [c, if_false]
  exact markText_l0 19 (by omega) x _ (by omega) (by omega) h2 (by decide)
theorem ev_some {α β : Type} {e : β} {f : Nat → β → Option α} {P : α → Prop} (h : ∀ y, y = e → ∃ r, Ev (fun k => f k y) r ∧ P r) : ∃ r, Ev (fun k => (some e).bind (f k)) r ∧ P r := by
 obtain ⟨r, h1, h2⟩ := h e rfl
 exact ⟨r, by simpa only [Option.bind_some] using h1, h2⟩
theorem markMsgS_l0 (d : Nat) : ∀ (i : Nat) (l : List MS) (x : Int), i + d = l.length → l.length ≤ 1000000000 → 0 ≤ x → x + 8 * d ≤ 9000000000000000000 → ∃ r, Ev (fun k => laws_markMsgS.l0 k l x (i : Int)) r ∧ r.1 = x + 8 * d := by
 induction d with
 | zero =>
  intro i l x h hl h0 h1
  refine ⟨(x, l), Ev.step (fun k => by simp only [laws_markMsgS.l0]; rfl) ?_, by simp⟩
  simp only [show ¬ ((i : Int) < (l.length : Int)) by omega, if_false]
  exact Ev.now _
 | succ d ih =>
  intro i l x h hl h0 h1
  have w1 : wrap64 (x + 1) = x + 1 := w64 (by omega) (by omega)
  have w2 : wrap64 (x + 1 + 1) = x + 1 + 1 := w64 (by omega) (by omega)
  have w3 : wrap64 (x + 1 + 1 + 1) = x + 1 + 1 + 1 := w64 (by omega) (by omega)
  have w4 : wrap64 (x + 1 + 1 + 1 + 1) = x + 1 + 1 + 1 + 1 := w64 (by omega) (by omega)
  have w5 : wrap64 (x + 1 + 1 + 1 + 1 + 1) = x + 1 + 1 + 1 + 1 + 1 := w64 (by omega) (by omega)
  have w6 : wrap64 (x + 1 + 1 + 1 + 1 + 1 + 1) = x + 1 + 1 + 1 + 1 + 1 + 1 := w64 (by omega) (by omega)
  have w7 : wrap64 (x + 1 + 1 + 1 + 1 + 1 + 1 + 1) = x + 1 + 1 + 1 + 1 + 1 + 1 + 1 := w64 (by omega) (by omega)
  have w8 : wrap64 (x + 1 + 1 + 1 + 1 + 1 + 1 + 1 + 1) = x + 1 + 1 + 1 + 1 + 1 + 1 + 1 + 1 := w64 (by omega) (by omega)
  have step : ∀ (g : Nat → Option (Int × List MS)), (∃ r, Ev g r ∧ r.1 = x + 8 * ((d + 1 : Nat) : Int)) → (∀ k, laws_markMsgS.l0 (k + 1) l x (i : Int) = g k) → ∃ r, Ev (fun k => laws_markMsgS.l0 k l x (i : Int)) r ∧ r.1 = x + 8 * ((d + 1 : Nat) : Int) := by
   rintro g ⟨r, e, hr⟩ hg
   exact ⟨r, Ev.step hg e, hr⟩
  refine step _ ?_ (fun k => by simp only [laws_markMsgS.l0]; rfl)
  simp only [show (i : Int) < (l.length : Int) by omega, show (0 : Int) ≤ (i : Int) by omega, if_true, w1, w2, w3, w4, w5, w6, w7, w8]
  refine ev_some fun y1 e1 => ?_
  have l1 : y1.length = l.length := by rw [e1, List.length_set]
  clear e1
  refine ev_some fun y2 e2 => ?_
  have l2 : y2.length = l.length := by rw [e2, List.length_set, l1]
  clear e2
  refine ev_some fun y3 e3 => ?_
  have l3 : y3.length = l.length := by rw [e3, List.length_set, l2]
  clear e3
  refine ev_some fun y4 e4 => ?_
  have l4 : y4.length = l.length := by rw [e4, List.length_set, l3]
  clear e4
  refine ev_some fun y5 e5 => ?_
  have l5 : y5.length = l.length := by rw [e5, List.length_set, l4]
  clear e5
  refine ev_some fun y6 e6 => ?_
  have l6 : y6.length = l.length := by rw [e6, List.length_set, l5]
  clear e6
  refine ev_some fun y7 e7 => ?_
  have l7 : y7.length = l.length := by rw [e7, List.length_set, l6]
  clear e7
  obtain ⟨t, ht⟩ := markText_ev (x + 1 + 1 + 1 + 1 + 1 + 1 + 1) (by omega)
  rw [w64 (x := (i : Int) + 1) (by omega) (by omega)]
  obtain ⟨r, e, hr⟩ := ih (i + 1) (y7.set (i : Int).toNat (⟨(rd_T32 y7 (i : Int)).f0, (rd_T32 y7 (i : Int)).f1, (rd_T32 y7 (i : Int)).f2, (rd_T32 y7 (i : Int)).f3, ⟨(rd_T32 y7 (i : Int)).f4.f0, (rd_T32 y7 (i : Int)).f4.f1⟩, (rd_T32 y7 (i : Int)).f5, t⟩ : MS)) (x + 1 + 1 + 1 + 1 + 1 + 1 + 1 + 1) (by rw [List.length_set]; omega) (by rw [List.length_set]; omega) (by omega) (by omega)
  refine ⟨r, Ev.bind ht ?_, by omega⟩
  exact e
theorem markMsgS_ev (l : List MS) (hl : l.length ≤ 1000000000) : ∃ r, Ev (fun k => laws_markMsgS.f k l 1) r ∧ ¬ r.1 < 0 := by
 unfold laws_markMsgS.f
 obtain ⟨r, e, hr⟩ := markMsgS_l0 l.length 0 l 1 (by omega) hl (by omega) (by omega)
 exact ⟨r, e, by omega⟩
def msOk (m : MS) : Bool := msgOk m.f0 m.f1 m.f2 m.f3 m.f4.f0 m.f4.f1 m.f5 m.f6
def msB (m : MS) : List Int := packB m.f0 m.f1 m.f2 m.f3 m.f4.f0 m.f4.f1 m.f5 m.f6
def joinL (acc : List Int) : List MS → List Int × Bool
 | [] => (acc, true)
 | m :: l => if msOk m = true then joinL ((acc ++ numL (msB m).length) ++ msB m) l else ([], false)
theorem joinL_len (l : List MS) : ∀ acc, (joinL acc l).1.length ≤ acc.length + 1010 * l.length := by
 induction l with
 | nil => intro acc; rw [joinL]; simp
 | cons m l ih =>
  intro acc
  rw [joinL]
  by_cases c : msOk m = true
  ·rw [if_pos c]
   have h1 : (msB m).length ≤ 1001 := packB_len c
   have h2 := numL_len9 (msB m).length (by omega)
   have := ih ((acc ++ numL (msB m).length) ++ msB m)
   rw [List.length_append, List.length_append] at this
   simp only [List.length_cons]
   omega
  ·rw [if_neg c]
   simp
def joinM (l : List MS) : List Int × Bool := if (l.length : Int) > 40 then ([], false) else joinL [] l
theorem joinM_len (l : List MS) : (joinM l).1.length ≤ 100000 := by
 unfold joinM
 split
 ·simp
 ·have := joinL_len l []
  simp only [List.length_nil] at this
  omega
theorem iJoinMsgs_l0 (l : List MS) (hl : l.length ≤ 40) (d : Nat) : ∀ (i : Nat) (acc : List Int), i + d = l.length → acc.length ≤ 1010 * i → Ev (fun k => impl_JoinMsgs.l0 k acc l (l.length : Int) (i : Int)) (joinL acc (l.drop i)) := by
 induction d with
 | zero =>
  intro i acc h ha
  refine Ev.step (fun k => by simp only [impl_JoinMsgs.l0]; rfl) ?_
  simp only [show ¬ ((i : Int) < (l.length : Int)) by omega, if_false]
  rw [List.drop_eq_nil_of_le (by omega), joinL]
  exact Ev.now _
 | succ d ih =>
  intro i acc h ha
  refine Ev.step (fun k => by simp only [impl_JoinMsgs.l0]; rfl) ?_
  simp only [show (i : Int) < (l.length : Int) by omega, show (0 : Int) ≤ (i : Int) by omega, if_true]
  rw [rdMs_nat l i (by omega), List.drop_eq_getElem_cons (show i < l.length by omega), joinL, w64 (by omega) (by omega)]
  generalize l[i]'(by omega) = m
  have hp := iPack_ev m.f0 m.f1 m.f2 m.f3 m.f4.f0 m.f4.f1 m.f5 m.f6
  change Ev _ (if msOk m = true then (msB m, true) else ([], false)) at hp
  refine Ev.bind hp ?_
  by_cases c : msOk m = true
  ·have h1 : (msB m).length ≤ 1001 := packB_len c
   have h2 := numL_len9 (msB m).length (by omega)
   rw [if_pos c, if_pos c]
   simp only [if_true]
   refine Ev.bind (iPutNum_ev _ (by omega) (by omega)) ?_
   simp only [Int.toNat_natCast, Option.bind_some]
   refine ev_if (by omega) ?_
   refine ev_if (by rw [List.length_append]; omega) ?_
   exact ih (i + 1) _ (by omega) (by rw [List.length_append, List.length_append]; omega)
  ·rw [if_neg c, if_neg c]
   simp only [Bool.false_eq_true, if_false]
   exact Ev.now _
theorem iJoinMsgs_ev (l : List MS) : Ev (fun k => impl_JoinMsgs.f k l) (joinM l) := by
 unfold impl_JoinMsgs.f joinM
 by_cases c : (l.length : Int) > 40
 ·simp only [c, if_true]
  exact Ev.now _
 ·simp only [c, if_false]
  have := iJoinMsgs_l0 l (by omega) l.length 0 [] (by omega) (by simp)
  simpa using this
theorem sJoinMsgs_l0 (l : List MS) (hl : l.length ≤ 40) (d : Nat) : ∀ (i : Nat) (acc : List Int), i + d = l.length → acc.length ≤ 1010 * i → Ev (fun k => spec_JoinMsgs.l0 k l acc (i : Int)) (joinL acc (l.drop i)) := by
 induction d with
 | zero =>
  intro i acc h ha
  refine Ev.step (fun k => by simp only [spec_JoinMsgs.l0]; rfl) ?_
  simp only [show ¬ ((i : Int) < (l.length : Int)) by omega, if_false]
  rw [List.drop_eq_nil_of_le (by omega), joinL]
  exact Ev.now _
 | succ d ih =>
  intro i acc h ha
  refine Ev.step (fun k => by simp only [spec_JoinMsgs.l0]; rfl) ?_
  simp only [show (i : Int) < (l.length : Int) by omega, show (0 : Int) ≤ (i : Int) by omega, if_true]
  rw [rdMs_nat l i (by omega), List.drop_eq_getElem_cons (show i < l.length by omega), joinL, w64 (by omega) (by omega)]
  generalize l[i]'(by omega) = m
  have hp := sPack_ev m.f0 m.f1 m.f2 m.f3 m.f4.f0 m.f4.f1 m.f5 m.f6
  change Ev _ (if msOk m = true then (msB m, true) else ([], false)) at hp
  refine Ev.bind hp ?_
  by_cases c : msOk m = true
  ·have h1 : (msB m).length ≤ 1001 := packB_len c
   have h2 := numL_len9 (msB m).length (by omega)
   rw [if_pos c, if_pos c]
   simp only [if_true]
   refine Ev.bind (sPutNum_ev _ (by omega) (by omega)) ?_
   simp only [Int.toNat_natCast, Option.bind_some]
   refine ev_if (by omega) ?_
   refine ev_if (by rw [List.length_append]; omega) ?_
   exact ih (i + 1) _ (by omega) (by rw [List.length_append, List.length_append]; omega)
  ·rw [if_neg c, if_neg c]
   simp only [Bool.false_eq_true, if_false]
   exact Ev.now _
theorem sJoinMsgs_ev (l : List MS) : Ev (fun k => spec_JoinMsgs.f k l) (joinM l) := by
 unfold spec_JoinMsgs.f joinM
 simp only [Option.bind_some]
 by_cases c : (l.length : Int) > 40
 ·simp only [c, if_true]
  exact Ev.now _
 ·simp only [c, if_false]
  have := sJoinMsgs_l0 l (by omega) l.length 0 [] (by omega) (by simp)
  simpa using this

theorem FnExactJoinMsgs (l0 : List S25) (_h : ∀ x ∈ l0, (Lit.int .i64 x.f0).wf = true ∧ (Lit.int .i64 x.f1).wf = true ∧ (Lit.int .i64 x.f2).wf = true ∧ (Lit.int .i64 x.f3).wf = true ∧ ((Lit.int .i64 x.f4.f0).wf = true ∧ (Lit.int .i64 x.f4.f1).wf = true) ∧ (Lit.int .i64 x.f5).wf = true ∧ x.f6.size ≤ maxLen) (hm : l0.length ≤ 9223372036854775807) : ∃ k, laws_FnExactJoinMsgs.f k l0 = some true := by
 apply Ev.rounds
 unfold laws_FnExactJoinMsgs.f
 obtain ⟨t, ht, hlen⟩ := szMsgS_ev l0 hm
 refine Ev.bind ht ?_
 by_cases c : t < 0
 ·exact ev_if c (Ev.now true)
 ·have hl := hlen c
  refine ev_ifn c ?_
  refine Ev.bind (toMsgS_ev l0 hl) ?_
  refine Ev.bind (sJoinMsgs_ev _) ?_
  refine Ev.bind (toMsgS_ev l0 hl) ?_
  refine Ev.bind (iJoinMsgs_ev _) ?_
  have hj := joinM_len (l0.map cvMs)
  have hi := iJoinMsgs_ev (l0.map cvMs)
  have hml : (l0.map cvMs).length ≤ 1048576 := by rw [List.length_map]; exact hl
  have hto := toMsgS_ev l0 hl
  generalize l0.map cvMs = l at *
  generalize joinM l = r at *
  refine Ev.bind (eqByteS_ev _ (by omega)) ?_
  simp only [if_true, bne_self_eq_false]
  refine Ev.step (fun k => by simp only [laws_FnExactJoinMsgs.j0]; rfl) ?_
  simp only [Bool.false_eq_true, if_false]
  refine Ev.bind hto ?_
  refine Ev.bind (eqMsgS_ev l (by omega)) ?_
  simp only [if_true]
  obtain ⟨p, hp, hp2⟩ := markMsgS_ev l (by omega)
  refine Ev.bind hp ?_
  refine ev_ifn hp2 ?_
  refine Ev.bind (eqByteS_ev _ (by omega)) ?_
  simp only [if_true, bne_self_eq_false]
  refine Ev.step (fun k => by simp only [laws_FnExactJoinMsgs.j1]; rfl) ?_
  simp only [Bool.false_eq_true, if_false]
  refine Ev.bind (markB_ev _ 1 (by omega)) ?_
  refine Ev.bind (heldB_ev 1 _ (by omega)) ?_
  refine ev_ifn (by omega) ?_
  simp only [if_true]
  refine Ev.bind hto ?_
  refine Ev.bind hi ?_
  refine Ev.bind (eqByteS_ev _ (by omega)) ?_
  simp only [if_true, bne_self_eq_false]
  refine Ev.step (fun k => by simp only [laws_FnExactJoinMsgs.j2]; rfl) ?_
  simp only [Bool.false_eq_true, if_false]
  refine Ev.bind (heldB_ev 1 _ (by omega)) ?_
  refine ev_ifn (by omega) ?_
  simp only [if_true]
  exact Ev.now true

end Go.Proofs.Ytpnfbekbkeiahaa.Pure
