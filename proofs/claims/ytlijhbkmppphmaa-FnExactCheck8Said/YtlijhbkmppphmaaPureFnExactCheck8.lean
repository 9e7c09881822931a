/- The plain half of FnExactCheck8: what the printed functions compute, over numbers and lists alone. No condition. -/
import Derived.Test.YtlijhbkmppphmaaXFnExactCheck8x
import Derived.OpenShut
namespace Go.Proofs.Ytlijhbkmppphmaa.Pure
open Go.RowKit Go.Proofs.Ytlijhbkmppphmaa.XFnExactCheck8 Go.Proofs.YtlijhbkmppphmaaW.PrintWords Go.Proofs.YtlijhbkmppphmaaW.PrintLast Go.Proofs.YtlijhbkmppphmaaW.PrintMore
set_option linter.unusedVariables false
set_option linter.unusedSimpArgs false
theorem wf64 {x : Int} (h : (Lit.int .i64 x).wf = true) : -9223372036854775808 ≤ x ∧ x ≤ 9223372036854775807 := by
  simp [Lit.wf, IntKind.min, IntKind.max, IntKind.signed, IntKind.bits] at h
  omega
theorem w64 {x : Int} (h1 : -9223372036854775808 ≤ x) (h2 : x ≤ 9223372036854775807) : wrap64 x = x := by
  unfold wrap64
  omega
/-- All of a list are bytes. -/
def U8s (l : List Int) : Prop := ∀ x ∈ l, (Lit.int .u8 x).wf = true
theorem u8s_rd {l : List Int} (h : U8s l) (i : Int) : 0 ≤ rd l i ∧ rd l i ≤ 255 := by
  unfold rd
  rw [List.getD_eq_getElem?_getD]
  rcases Nat.lt_or_ge i.toNat l.length with hi | hi
  · rw [List.getElem?_eq_getElem hi]
    exact Go.bounds_u8 (h _ (List.getElem_mem hi))
  · rw [List.getElem?_eq_none hi]
    decide
theorem rd_nat (l : List Int) (i : Nat) (hi : i < l.length) : rd l (i : Int) = l[i] := by
  unfold rd
  rw [List.getD_eq_getElem?_getD]
  simp [List.getElem?_eq_getElem hi]
theorem take_set_succ (l : List Int) (i : Nat) (h : i < l.length) : (l.take i ++ List.replicate (l.length - i) 0).set i l[i] = l.take (i + 1) ++ List.replicate (l.length - (i + 1)) 0 := by
  have e : l.length - i = (l.length - (i + 1)) + 1 := by omega
  rw [e, List.replicate_succ, List.set_append_right _ _ (List.length_take_le _ _), List.length_take, Nat.min_eq_left (by omega), Nat.sub_self, List.set_cons_zero, List.take_succ_eq_append_getElem h, List.append_assoc]
  rfl
theorem toByteS_l0 (l : List Int) (hl : l.length ≤ 9223372036854775806) (d : Nat) : ∀ i : Nat, i + d = l.length → Ev (fun k => laws_toByteS.l0 k l (l.take i ++ List.replicate (l.length - i) 0) i) l := by
  induction d with
  | zero =>
    intro i hi
    refine Ev.step (fun k => by simp only [laws_toByteS.l0]; rfl) ?_
    simp only [show ¬ ((i : Int) < (l.length : Int)) by omega, if_false]
    rw [List.take_of_length_le (by omega), show l.length - i = 0 by omega]
    simpa using Ev.now l
  | succ d ih =>
    intro i hi
    refine Ev.step (fun k => by simp only [laws_toByteS.l0]; rfl) ?_
    have hlen : (l.take i ++ List.replicate (l.length - i) (0 : Int)).length = l.length := by simp; omega
    rw [hlen]
    simp only [show (i : Int) < (l.length : Int) by omega, show (0 : Int) ≤ (i : Int) by omega, if_true, Int.toNat_natCast]
    rw [rd_nat l i (by omega), take_set_succ l i (by omega), w64 (by omega) (by omega)]
    exact ih (i + 1) (by omega)
theorem toByteS_ev (l : List Int) (hl : l.length ≤ 1048576) : Ev (fun k => laws_toByteS.f k l) l := by
  unfold laws_toByteS.f
  simp only [show (0 : Int) ≤ (l.length : Int) by omega, Int.toNat_natCast, show l.length ≤ 281474976710656 by omega, if_true]
  have := toByteS_l0 l (by omega) l.length 0 (by omega)
  simpa using this
theorem eqByteS_l0 (l : List Int) (hl : l.length ≤ 9223372036854775806) (d : Nat) : ∀ i : Nat, i + d = l.length → Ev (fun k => laws_eqByteS.l0 k l l i) true := by
  induction d with
  | zero =>
    intro i hi
    refine Ev.step (fun k => by simp only [laws_eqByteS.l0]; rfl) ?_
    simp only [show ¬ ((i : Int) < (l.length : Int)) by omega, if_false]
    exact Ev.now true
  | succ d ih =>
    intro i hi
    refine Ev.step (fun k => by simp only [laws_eqByteS.l0]; rfl) ?_
    simp only [show (i : Int) < (l.length : Int) by omega, show (0 : Int) ≤ (i : Int) by omega, if_true]
    rw [w64 (by omega) (by omega)]
    exact ih (i + 1) (by omega)
theorem eqByteS_ev (l : List Int) (hl : l.length ≤ 9223372036854775806) : Ev (fun k => laws_eqByteS.f k l l) true := by
  unfold laws_eqByteS.f
  simp only [if_true]
  exact eqByteS_l0 l hl l.length 0 (by omega)
theorem wrapi64 (n : Int) (h0 : 0 ≤ n) (h1 : n < 9223372036854775808) : IntKind.i64.wrap n = n := by
  rw [IntKind.wrap_i64]
  omega
theorem ofInt_i64 (a : Nat) (ha : a < 18446744073709551616) : (BitVec.ofInt 64 (a : Int)).toNat = a := by
  rw [BitVec.ofInt_natCast, BitVec.toNat_ofNat]
  exact Nat.mod_eq_of_lt ha
theorem xor_nat (a b : Nat) (ha : a < 256) (hb : b < 256) : Go.bits .xor .i64 (a : Int) (b : Int) = ((a ^^^ b : Nat) : Int) := by
  have hx : a ^^^ b < 2 ^ 8 := Nat.xor_lt_two_pow (by omega) (by omega)
  show IntKind.i64.wrap ((BitVec.ofInt 64 (a : Int) ^^^ BitVec.ofInt 64 (b : Int)).toNat : Int) = _
  rw [BitVec.toNat_xor, ofInt_i64 a (by omega), ofInt_i64 b (by omega), wrapi64 _ (by omega) (by omega)]
theorem xor_i64 (a b : Int) (h1 : 0 ≤ a) (h2 : a < 256) (h3 : 0 ≤ b) (h4 : b < 256) : Go.bits .xor .i64 a b = ((a.toNat ^^^ b.toNat : Nat) : Int) := by
  obtain ⟨A, rfl⟩ := Int.eq_ofNat_of_zero_le h1
  obtain ⟨B, rfl⟩ := Int.eq_ofNat_of_zero_le h3
  simpa using xor_nat A B (by omega) (by omega)
theorem and255 (a : Int) (h1 : 0 ≤ a) (h2 : a < 512) : Go.bits .and .i64 a 255 = a % 256 := by
  have h := bits_mask .i64 9 (by decide) (fun n h0 h1 => wrapi64 n h0 (by omega)) 8 (by decide) a h1 (by omega)
  simpa using h
/-- One bit of the check: numbers below 256. -/
def bit1 (x : Nat) : Nat := if 2 * x > 255 then (2 * x) % 256 ^^^ 7 else 2 * x
def bitn : Nat → Nat → Nat
  | 0, x => x
  | n + 1, x => bitn n (bit1 x)
/-- The check of some bytes, from a state on. -/
def byte8 (x : Nat) (c : Int) : Nat := bitn 8 (x ^^^ c.toNat)
def crc (x : Nat) (l : List Int) : Nat := l.foldl byte8 x
theorem crc_nil (x : Nat) : crc x [] = x := List.foldl_nil
theorem crc_cons (x : Nat) (c : Int) (l : List Int) : crc x (c :: l) = crc (byte8 x c) l := List.foldl_cons ..
theorem bit1_lt (x : Nat) (h : x < 256) : bit1 x < 256 := by
  unfold bit1
  split
  · exact Nat.xor_lt_two_pow (n := 8) (by omega) (by omega)
  · omega
theorem bitn_lt (n : Nat) : ∀ x, x < 256 → bitn n x < 256 := by
  induction n with
  | zero => exact fun x h => h
  | succ n ih => exact fun x h => ih _ (bit1_lt x h)
theorem xor_lt (x y : Nat) (h : x < 256) (h' : y < 256) : x ^^^ y < 256 := Nat.xor_lt_two_pow (n := 8) (by omega) (by omega)
theorem crc_lt (l : List Int) (hl : ∀ c ∈ l, 0 ≤ c ∧ c ≤ 255) : ∀ x, x < 256 → crc x l < 256 := by
  induction l with
  | nil => exact fun x h => h
  | cons c l ih =>
    intro x h
    have hc := hl c List.mem_cons_self
    have hb : byte8 x c < 256 := by unfold byte8; exact bitn_lt 8 _ (xor_lt x c.toNat h (by omega))
    rw [crc_cons]
    exact ih (fun d hd => hl d (List.mem_cons_of_mem _ hd)) _ hb
theorem iCheck8_bits (r : Option Int) (l : List Int) (n i : Int) (R : Int) (j : Nat) : ∀ (d x : Nat), x < 256 → j = 8 - d → d ≤ 8 → Ev (fun k => impl_Check8.l0 k (bitn d x) l n (wrap64 (i + 1))) R → Ev (fun k => impl_Check8.l1 k x l n i ((8 - d : Nat) : Int)) R := by
  intro d
  induction d generalizing j with
  | zero =>
    intro x hx _ _ h
    refine Ev.step (fun k => by simp only [impl_Check8.l1]; rfl) ?_
    simpa [bitn] using h
  | succ d ih =>
    intro x hx hj hd h
    refine Ev.step (fun k => by simp only [impl_Check8.l1]; rfl) ?_
    have e8 : ((8 - (d + 1) : Nat) : Int) < 8 := by omega
    simp only [e8, if_true]
    have ew : wrap64 (((8 - (d + 1) : Nat) : Int) + 1) = ((8 - d : Nat) : Int) := by rw [w64 (by omega) (by omega)]; omega
    rw [ew, show wrap64 ((x : Int) * 2) = ((2 * x : Nat) : Int) by rw [w64 (by omega) (by omega)]; omega]
    by_cases c : 2 * x > 255
    · simp only [show ((2 * x : Nat) : Int) > 255 by omega, if_true]
      rw [and255 _ (by omega) (by omega), show ((2 * x : Nat) : Int) % 256 = ((2 * x % 256 : Nat) : Int) by omega, show (7 : Int) = ((7 : Nat) : Int) from rfl, xor_nat _ _ (by omega) (by omega)]
      have eb : 2 * x % 256 ^^^ 7 = bit1 x := by unfold bit1; rw [if_pos c]
      rw [eb]
      exact ih _ (bit1 x) (bit1_lt x hx) rfl (by omega) h
    · simp only [show ¬ (((2 * x : Nat) : Int) > 255) by omega, if_false]
      have eb : 2 * x = bit1 x := by unfold bit1; rw [if_neg c]
      rw [eb]
      exact ih _ (bit1 x) (bit1_lt x hx) rfl (by omega) h
theorem iCheck8_l0 (l : List Int) (hu : U8s l) (hl : l.length ≤ 9223372036854775806) (d : Nat) : ∀ (i x : Nat), x < 256 → i + d = l.length → Ev (fun k => impl_Check8.l0 k x l (l.length : Int) i) (crc x (l.drop i)) := by
  induction d with
  | zero =>
    intro i x hx hi
    refine Ev.step (fun k => by simp only [impl_Check8.l0]; rfl) ?_
    simp only [show ¬ ((i : Int) < (l.length : Int)) by omega, if_false]
    rw [List.drop_eq_nil_of_le (by omega), crc_nil]
    exact Ev.now _
  | succ d ih =>
    intro i x hx hi
    refine Ev.step (fun k => by simp only [impl_Check8.l0]; rfl) ?_
    simp only [show (i : Int) < (l.length : Int) by omega, show (0 : Int) ≤ (i : Int) by omega, if_true]
    have hb := u8s_rd hu (i : Int)
    rw [w64 (x := rd l i) (by omega) (by omega), xor_i64 _ _ (by omega) (by omega) hb.1 (by omega), Int.toNat_natCast]
    rw [List.drop_eq_getElem_cons (show i < l.length by omega)]
    have hr : rd l (i : Int) = l[i] := rd_nat l i (by omega)
    have hxx := xor_lt x (rd l i).toNat hx (by omega)
    have h0 := iCheck8_bits none l (l.length : Int) (i : Int) (crc (byte8 x (rd l i)) (l.drop (i + 1))) 0 8 (x ^^^ (rd l i).toNat) hxx rfl (by omega) (by
      rw [w64 (by omega) (by omega)]
      have hb8 : bitn 8 (x ^^^ (rd l i).toNat) = byte8 x (rd l i) := by unfold byte8; rfl
      have hbl := bitn_lt 8 _ hxx
      rw [hb8] at hbl ⊢
      exact ih (i + 1) _ hbl (by omega))
    rw [crc_cons, ← hr]
    exact h0
theorem iCheck8_ev (l : List Int) (hu : U8s l) (hl : l.length ≤ 9223372036854775806) : Ev (fun k => impl_Check8.f k l) (crc 90 l) := by
  unfold impl_Check8.f
  have := iCheck8_l0 l hu hl l.length 0 90 (by omega) (by omega)
  simpa using this
theorem sCheck8_bits (l : List Int) (i : Int) (R : Int) (j : Nat) : ∀ (d x : Nat), x < 256 → j = 8 - d → d ≤ 8 → Ev (fun k => spec_Check8.l0 k l (bitn d x) (wrap64 (i + 1))) R → Ev (fun k => spec_Check8.l1 k l x i ((8 - d : Nat) : Int)) R := by
  intro d
  induction d generalizing j with
  | zero =>
    intro x hx _ _ h
    refine Ev.step (fun k => by simp only [spec_Check8.l1]; rfl) ?_
    simpa [bitn] using h
  | succ d ih =>
    intro x hx hj hd h
    refine Ev.step (fun k => by simp only [spec_Check8.l1]; rfl) ?_
    have e8 : ((8 - (d + 1) : Nat) : Int) < 8 := by omega
    simp only [e8, if_true]
    have ew : wrap64 (((8 - (d + 1) : Nat) : Int) + 1) = ((8 - d : Nat) : Int) := by rw [w64 (by omega) (by omega)]; omega
    rw [ew, show wrap64 (2 * (x : Int)) = ((2 * x : Nat) : Int) by rw [w64 (by omega) (by omega)]; omega]
    by_cases c : 2 * x > 255
    · simp only [show ((2 * x : Nat) : Int) > 255 by omega, if_true]
      rw [Int.tmod_eq_emod_of_nonneg (by omega), show ((2 * x : Nat) : Int) % 256 = ((2 * x % 256 : Nat) : Int) by omega, show (7 : Int) = ((7 : Nat) : Int) from rfl, xor_nat _ _ (by omega) (by omega)]
      have eb : 2 * x % 256 ^^^ 7 = bit1 x := by unfold bit1; rw [if_pos c]
      rw [eb]
      exact ih _ (bit1 x) (bit1_lt x hx) rfl (by omega) h
    · simp only [show ¬ (((2 * x : Nat) : Int) > 255) by omega, if_false]
      have eb : 2 * x = bit1 x := by unfold bit1; rw [if_neg c]
      rw [eb]
      exact ih _ (bit1 x) (bit1_lt x hx) rfl (by omega) h
theorem sCheck8_l0 (l : List Int) (hu : U8s l) (hl : l.length ≤ 9223372036854775806) (d : Nat) : ∀ (i x : Nat), x < 256 → i + d = l.length → Ev (fun k => spec_Check8.l0 k l x i) (crc x (l.drop i)) := by
  induction d with
  | zero =>
    intro i x hx hi
    refine Ev.step (fun k => by simp only [spec_Check8.l0]; rfl) ?_
    simp only [show ¬ ((i : Int) < (l.length : Int)) by omega, if_false]
    rw [List.drop_eq_nil_of_le (by omega), crc_nil]
    exact Ev.now _
  | succ d ih =>
    intro i x hx hi
    refine Ev.step (fun k => by simp only [spec_Check8.l0]; rfl) ?_
    simp only [show (i : Int) < (l.length : Int) by omega, show (0 : Int) ≤ (i : Int) by omega, if_true]
    have hb := u8s_rd hu (i : Int)
    rw [w64 (x := rd l i) (by omega) (by omega), xor_i64 _ _ (by omega) (by omega) hb.1 (by omega), Int.toNat_natCast]
    rw [List.drop_eq_getElem_cons (show i < l.length by omega)]
    have hr : rd l (i : Int) = l[i] := rd_nat l i (by omega)
    have hxx := xor_lt x (rd l i).toNat hx (by omega)
    have h0 := sCheck8_bits l (i : Int) (crc (byte8 x (rd l i)) (l.drop (i + 1))) 0 8 (x ^^^ (rd l i).toNat) hxx rfl (by omega) (by
      rw [w64 (by omega) (by omega)]
      have hb8 : bitn 8 (x ^^^ (rd l i).toNat) = byte8 x (rd l i) := by unfold byte8; rfl
      have hbl := bitn_lt 8 _ hxx
      rw [hb8] at hbl ⊢
      exact ih (i + 1) _ hbl (by omega))
    rw [crc_cons, ← hr]
    exact h0
theorem sCheck8_ev (l : List Int) (hu : U8s l) (hl : l.length ≤ 9223372036854775806) : Ev (fun k => spec_Check8.f k l) (crc 90 l) := by
  unfold spec_Check8.f
  have := sCheck8_l0 l hu hl l.length 0 90 (by omega) (by omega)
  simpa using this

theorem FnExactCheck8 (l0 : List Int) (hu : ∀ x ∈ l0, (Lit.int .u8 x).wf = true) (_hm : l0.length ≤ 9223372036854775807) : ∃ k, laws_FnExactCheck8.f k l0 = some true := by
  apply Ev.rounds
  unfold laws_FnExactCheck8.f
  by_cases h : (l0.length : Int) > 1048576
  · simp only [h, if_true]
    exact Ev.now true
  · simp only [h, if_false]
    refine Ev.bind (toByteS_ev l0 (by omega)) ?_
    refine Ev.bind (sCheck8_ev l0 hu (by omega)) ?_
    refine Ev.bind (toByteS_ev l0 (by omega)) ?_
    refine Ev.bind (iCheck8_ev l0 hu (by omega)) ?_
    simp only [if_true]
    refine Ev.bind (toByteS_ev l0 (by omega)) ?_
    refine Ev.bind (eqByteS_ev l0 (by omega)) ?_
    simp only [if_true]
    exact Ev.now true

end Go.Proofs.Ytlijhbkmppphmaa.Pure
