/- The plain half of FnMailFor: what the printed functions compute, over numbers and lists alone. No condition. -/
import Derived.Test.YtlbdhjkihndehaaXFnMailForx
import Derived.OpenShut
namespace Go.Proofs.Ytlbdhjkihndehaa.Pure
open Go.RowKit Go.Proofs.Ytlbdhjkihndehaa.XFnMailFor Go.Proofs.YtlbdhjkihndehaaW.PrintWords Go.Proofs.YtlbdhjkihndehaaW.PrintLast Go.Proofs.YtlbdhjkihndehaaW.PrintMore
set_option linter.unusedVariables false
set_option linter.unusedSimpArgs false
theorem wf64 {x : Int} (h : (Lit.int .i64 x).wf = true) : -9223372036854775808 ≤ x ∧ x ≤ 9223372036854775807 := by
  simp [Lit.wf, IntKind.min, IntKind.max, IntKind.signed, IntKind.bits] at h
  omega
theorem w64 {x : Int} (h1 : -9223372036854775808 ≤ x) (h2 : x ≤ 9223372036854775807) : wrap64 x = x := by
  unfold wrap64
  omega
theorem in_eq (a b c : Int) : impl_in.f a b c = some (decide (b ≤ a ∧ a ≤ c)) := by
  unfold impl_in.f
  by_cases h : b ≤ a <;> simp [h]
theorem l1In_eq (a b c : Int) : spec_l1In.f a b c = some (decide (b ≤ a ∧ a ≤ c)) := by
  unfold spec_l1In.f
  by_cases h : b ≤ a <;> simp [h]
theorem isTime_eq (a : Int) : impl_isTime.f a = some (decide (0 ≤ a ∧ a ≤ 1000000000000)) := by
  unfold impl_isTime.f
  rw [in_eq]
  rfl
theorem l2Time_eq (a : Int) : spec_l2Time.f a = some (decide (0 ≤ a ∧ a ≤ 1000000000000)) := by
  unfold spec_l2Time.f
  rw [l1In_eq]
  rfl
/-- All of a list are bytes. -/
def U8s (l : List Int) : Prop := ∀ x ∈ l, (Lit.int .u8 x).wf = true
theorem u8s_rd {l : List Int} (h : U8s l) (i : Int) : 0 ≤ rd l i ∧ rd l i ≤ 255 := by
  unfold rd
  rw [List.getD_eq_getElem?_getD]
  rcases Nat.lt_or_ge i.toNat l.length with hi | hi
  · rw [List.getElem?_eq_getElem hi]
    exact Go.bounds_u8 (h _ (List.getElem_mem hi))
  · rw [List.getElem?_eq_none hi]
    decide
theorem rd_nat (l : List Int) (i : Nat) (hi : i < l.length) : rd l (i : Int) = l[i] := by
  unfold rd
  rw [List.getD_eq_getElem?_getD]
  simp [List.getElem?_eq_getElem hi]
/-- A cursor's place. -/
def Cu (b : List Int) (i : Int) : Prop := 0 ≤ i ∧ i ≤ b.length ∧ b.length ≤ 1048576
theorem and255_in (y : Int) : 0 ≤ Go.bits .and .i64 y 255 ∧ Go.bits .and .i64 y 255 ≤ 255 := by
  have e : Go.bits .and .i64 y 255 = IntKind.i64.wrap ((BitVec.ofInt 64 y &&& BitVec.ofInt 64 255).toNat : Int) := rfl
  have h1 : (BitVec.ofInt 64 y &&& BitVec.ofInt 64 255).toNat ≤ 255 := by
    rw [BitVec.toNat_and]
    exact Nat.le_trans Nat.and_le_right (by decide)
  have h2 : IntKind.i64.wrap ((BitVec.ofInt 64 y &&& BitVec.ofInt 64 255).toNat : Int) = ((BitVec.ofInt 64 y &&& BitVec.ofInt 64 255).toNat : Int) := by
    rw [IntKind.wrap_i64]
    omega
  rw [e, h2]
  omega
theorem l1Byte_ok {b : List Int} {i : Int} (h : Int) (hc : Cu b i) : ∃ x i' h', spec_l1Byte.f b i h = some (x, i', h') ∧ (0 ≤ x ∧ x ≤ 255) ∧ Cu b i' := by
  obtain ⟨h0, h1, h2⟩ := hc
  unfold spec_l1Byte.f
  by_cases c : i < (b.length : Int)
  · rw [if_pos c, if_pos h0]
    exact ⟨_, _, _, rfl, and255_in _, by rw [w64 (by omega) (by omega)]; exact ⟨by omega, by omega, h2⟩⟩
  · rw [if_neg c]
    exact ⟨_, _, _, rfl, and255_in _, h0, h1, h2⟩
theorem l1Below_ok {b : List Int} {i : Int} (h n : Int) (hn : n ≤ 9223372036854775807) (hc : Cu b i) : ∃ x i' h', spec_l1Below.f b i h n = some (x, i', h') ∧ 0 ≤ x ∧ (0 < n → x < n) ∧ (n ≤ 0 → x = 0) ∧ x ≤ 4294967295 ∧ Cu b i' := by
  unfold spec_l1Below.f
  by_cases c : n ≤ 0
  · rw [if_pos c]
    exact ⟨_, _, _, rfl, by omega, by omega, fun _ => rfl, by omega, hc⟩
  · rw [if_neg c]
    by_cases c2 : n ≤ 256
    · rw [if_pos c2]
      obtain ⟨x, i', h', e, hx, hc'⟩ := l1Byte_ok h hc
      rw [e]
      simp only [Option.bind_some, if_neg (show ¬ (n = 0) by omega)]
      rw [Int.tmod_eq_emod_of_nonneg hx.1]
      have h1 := Int.emod_nonneg x (show n ≠ 0 by omega)
      have h2 := Int.emod_lt_of_pos x (show 0 < n by omega)
      exact ⟨_, _, _, rfl, h1, fun _ => h2, by omega, by omega, hc'⟩
    · rw [if_neg c2]
      obtain ⟨x, i1, h1, e1, hx, hc1⟩ := l1Byte_ok h hc
      obtain ⟨y, i2, h2, e2, hy, hc2⟩ := l1Byte_ok h1 hc1
      obtain ⟨z, i3, h3, e3, hz, hc3⟩ := l1Byte_ok h2 hc2
      obtain ⟨w, i4, h4, e4, hw, hc4⟩ := l1Byte_ok h3 hc3
      rw [e1]
      simp only [Option.bind_some]
      rw [e2]
      simp only [Option.bind_some]
      rw [e3]
      simp only [Option.bind_some]
      rw [e4]
      simp only [Option.bind_some, if_neg (show ¬ (n = 0) by omega)]
      have ew : wrap64 (wrap64 (wrap64 (wrap64 (x * 16777216) + wrap64 (y * 65536)) + wrap64 (z * 256)) + w) = x * 16777216 + y * 65536 + z * 256 + w := by
        rw [w64 (x := x * 16777216) (by omega) (by omega), w64 (x := y * 65536) (by omega) (by omega), w64 (x := z * 256) (by omega) (by omega), w64 (x := x * 16777216 + y * 65536) (by omega) (by omega), w64 (x := x * 16777216 + y * 65536 + z * 256) (by omega) (by omega), w64 (by omega) (by omega)]
      rw [ew, Int.tmod_eq_emod_of_nonneg (by omega)]
      have g1 := Int.emod_nonneg (x * 16777216 + y * 65536 + z * 256 + w) (show n ≠ 0 by omega)
      have g2 := Int.emod_lt_of_pos (x * 16777216 + y * 65536 + z * 256 + w) (show 0 < n by omega)
      have g3 : (x * 16777216 + y * 65536 + z * 256 + w) % n ≤ x * 16777216 + y * 65536 + z * 256 + w := by
        have q1 := Int.emod_add_mul_ediv (x * 16777216 + y * 65536 + z * 256 + w) n
        have q2 : 0 ≤ n * ((x * 16777216 + y * 65536 + z * 256 + w) / n) := Int.mul_nonneg (by omega) (Int.ediv_nonneg (by omega) (by omega))
        omega
      exact ⟨_, _, _, rfl, g1, fun _ => g2, by omega, by omega, hc4⟩
theorem l1New_l0 (b : List Int) (hl : b.length ≤ 1048576) (d : Nat) : ∀ (i : Nat) (x : Int), i + d = b.length → ∃ h, Ev (fun k => spec_l1New.l0 k b x (i : Int)) (b, 0, h) := by
  induction d with
  | zero =>
    intro i x hi
    refine ⟨x, Ev.step (fun k => by simp only [spec_l1New.l0]; rfl) ?_⟩
    simp only [show ¬ ((i : Int) < (b.length : Int)) by omega, if_false]
    exact Ev.now _
  | succ d ih =>
    intro i x hi
    by_cases c : (i : Int) < 4000
    · obtain ⟨h, hh⟩ := ih (i + 1) (Go.bits .and .i64 (wrap64 ((wrap64 ((wrap64 (x * 131)) + (wrap64 (rd b (i : Int))))) + 7)) 1073741823) (by omega)
      refine ⟨h, Ev.step (fun k => by simp only [spec_l1New.l0]; rfl) ?_⟩
      simp only [show (i : Int) < (b.length : Int) by omega, c, show (0 : Int) ≤ (i : Int) by omega, if_true]
      rw [w64 (x := (i : Int) + 1) (by omega) (by omega)]
      exact hh
    · refine ⟨x, Ev.step (fun k => by simp only [spec_l1New.l0]; rfl) ?_⟩
      simp only [show (i : Int) < (b.length : Int) by omega, c, if_true, if_false]
      exact Ev.now _
theorem l1New_ev (b : List Int) (hl : b.length ≤ 1048576) : ∃ h, Ev (fun k => spec_l1New.f k b) (b, 0, h) := by
  unfold spec_l1New.f
  exact l1New_l0 b hl b.length 0 _ (by omega)
theorem cu0 {b : List Int} (hl : b.length ≤ 1048576) : Cu b 0 := ⟨by omega, by omega, hl⟩
theorem l1PickInt_ok {b : List Int} {i : Int} (h : Int) (l : List Int) (hl0 : 0 < l.length) (hl1 : l.length ≤ 256) (hc : Cu b i) : ∃ x i' h', spec_l1PickInt.f b i h l = some (x, i', h') ∧ x ∈ l ∧ Cu b i' := by
  unfold spec_l1PickInt.f
  obtain ⟨x, i', h', e, hx0, hx1, _, _, hc'⟩ := l1Below_ok h (l.length : Int) (by omega) hc
  rw [e]
  have := hx1 (by omega)
  simp only [Option.bind_some, if_pos hx0, if_pos this]
  refine ⟨_, _, _, rfl, ?_, hc'⟩
  unfold rd
  rw [List.getD_eq_getElem?_getD, List.getElem?_eq_getElem (by omega)]
  exact List.getElem_mem _
theorem l1Once_ok {b : List Int} {i : Int} (h n : Int) (hn : n ≤ 9223372036854775807) (hc : Cu b i) : ∃ x i' h', spec_l1Once.f b i h n = some (x, i', h') ∧ Cu b i' := by
  unfold spec_l1Once.f
  obtain ⟨x, i', h', e, _, _, _, _, hc'⟩ := l1Below_ok h n hn hc
  rw [e]
  exact ⟨_, _, _, rfl, hc'⟩
theorem ev_if {α : Type} {c : Prop} [Decidable c] {f g : Nat → Option α} {r : α} (hc : c) (h : Ev f r) : Ev (fun k => if c then f k else g k) r := by
  simp only [hc, if_true]
  exact h
theorem ev_ifn {α : Type} {c : Prop} [Decidable c] {f g : Nat → Option α} {r : α} (hc : ¬ c) (h : Ev g r) : Ev (fun k => if c then f k else g k) r := by
  simp only [hc, if_false]
  exact h
theorem ev2 {α : Type} {g : Nat → Option α} {r : α} (h : ∀ k, g (k + 2) = some r) : Ev g r := ⟨2, fun k hk => by obtain ⟨m, rfl⟩ : ∃ m, k = m + 2 := ⟨k - 2, by omega⟩; exact h m⟩
abbrev FS := S41
theorem rdF_nat (l : List FS) (i : Nat) (hi : i < l.length) : rd_T41 l (i : Int) = l[i] := by
  unfold rd_T41
  rw [List.getD_eq_getElem?_getD]
  simp [List.getElem?_eq_getElem hi]
def fOk (f : FS) : Bool := decide (0 ≤ f.f1 ∧ f.f1 ≤ 7 ∧ 0 ≤ f.f2 ∧ f.f2 ≤ 7 ∧ f.f3.size ≤ 64 ∧ 0 ≤ f.f4 ∧ f.f4 ≤ 1000000000000)
/-- The flights of a net, behind those whose numbers were seen. -/
def netL (nx : Int) : List FS → List Int → Bool
  | [], _ => true
  | f :: l, sn => if fOk f = true then (if 0 ≤ f.f0 ∧ f.f0 ≤ nx - 1 then (if f.f0 ∈ sn then false else netL nx l (sn ++ [f.f0])) else false) else false
def netOk (nx : Int) (l : List FS) : Bool := if 0 ≤ nx ∧ nx ≤ 1000000 then (if (l.length : Int) > 40 then false else netL nx l []) else false
theorem netOk_len {nx : Int} {l : List FS} (h : netOk nx l = true) : l.length ≤ 40 := by
  unfold netOk at h
  split at h
  · split at h
    · exact absurd h (by decide)
    · omega
  · exact absurd h (by decide)
theorem isNodeN_eq (a : Int) : impl_isNode.f a = some (decide (0 ≤ a ∧ a ≤ 7)) := by
  unfold impl_isNode.f
  rw [in_eq]
  rfl
theorem iFlightOk_eq (f : FS) : impl_flightOk.f f.f0 f.f1 f.f2 f.f3 f.f4 = some (fOk f) := by
  unfold impl_flightOk.f fOk
  simp only [isNodeN_eq, isTime_eq, Option.bind_some, decide_eq_true_eq]
  by_cases c1 : 0 ≤ f.f1 ∧ f.f1 ≤ 7
  · rw [if_pos c1]
    by_cases c2 : 0 ≤ f.f2 ∧ f.f2 ≤ 7
    · rw [if_pos c2]
      by_cases c3 : (f.f3.size : Int) ≤ 64
      · rw [if_pos c3]
        simp only [Option.some.injEq, decide_eq_decide]
        omega
      · rw [if_neg c3]
        simp only [Option.some.injEq]
        exact (decide_eq_false (by omega)).symm
    · rw [if_neg c2]
      simp only [Option.some.injEq]
      exact (decide_eq_false (by omega)).symm
  · rw [if_neg c1]
    simp only [Option.some.injEq]
    exact (decide_eq_false (by omega)).symm
theorem l4NodeN_eq (a : Int) : spec_l4Node.f a = some (decide (0 ≤ a ∧ a ≤ 7)) := by
  unfold spec_l4Node.f
  rw [l1In_eq]
  rfl
theorem sFlightOk_eq (f : FS) : spec_l5Flight.f f.f0 f.f1 f.f2 f.f3 f.f4 = some (fOk f) := by
  unfold spec_l5Flight.f fOk
  simp only [l4NodeN_eq, l2Time_eq, Option.bind_some, decide_eq_true_eq]
  by_cases c1 : 0 ≤ f.f1 ∧ f.f1 ≤ 7
  · rw [if_pos c1]
    by_cases c2 : 0 ≤ f.f2 ∧ f.f2 ≤ 7
    · rw [if_pos c2]
      by_cases c3 : (f.f3.size : Int) ≤ 64
      · rw [if_pos c3]
        simp only [Option.some.injEq, decide_eq_decide]
        omega
      · rw [if_neg c3]
        simp only [Option.some.injEq]
        exact (decide_eq_false (by omega)).symm
    · rw [if_neg c2]
      simp only [Option.some.injEq]
      exact (decide_eq_false (by omega)).symm
  · rw [if_neg c1]
    simp only [Option.some.injEq]
    exact (decide_eq_false (by omega)).symm
theorem iNetOk_l0 (nx : Int) (h0 : 0 ≤ nx ∧ nx ≤ 1000000) (l : List FS) (hl : l.length ≤ 40) (d : Nat) : ∀ (i : Nat) (sn : List Int), i + d = l.length → sn.length ≤ i → Ev (fun k => impl_NetOk.l0 k l (l.length : Int) (i : Int) nx l sn) (netL nx (l.drop i) sn) := by
  induction d with
  | zero =>
    intro i sn h hs
    refine Ev.step (fun k => by simp only [impl_NetOk.l0]; rfl) ?_
    simp only [show ¬ ((i : Int) < (l.length : Int)) by omega, if_false]
    rw [List.drop_eq_nil_of_le (by omega), netL]
    exact Ev.now _
  | succ d ih =>
    intro i sn h hs
    refine Ev.step (fun k => by simp only [impl_NetOk.l0]; rfl) ?_
    simp only [show (i : Int) < (l.length : Int) by omega, show (0 : Int) ≤ (i : Int) by omega, if_true]
    rw [rdF_nat l i (by omega), List.drop_eq_getElem_cons (show i < l.length by omega), netL, w64 (x := nx - 1) (by omega) (by omega), w64 (x := (i : Int) + 1) (by omega) (by omega)]
    generalize l[i]'(by omega) = f
    simp only [iFlightOk_eq, in_eq, Option.bind_some, decide_eq_true_eq]
    by_cases c1 : fOk f = true
    · rw [if_pos c1]
      refine ev_if c1 ?_
      by_cases c2 : 0 ≤ f.f0 ∧ f.f0 ≤ nx - 1
      · rw [if_pos c2]
        refine ev_if c2 ?_
        by_cases c3 : f.f0 ∈ sn
        · rw [if_pos c3]
          exact ev_if c3 (Ev.now _)
        · rw [if_neg c3]
          refine ev_ifn c3 (ev_if (by omega) ?_)
          exact ih (i + 1) _ (by omega) (by simp; omega)
      · rw [if_neg c2]
        exact ev_ifn c2 (Ev.now _)
    · rw [if_neg c1]
      exact ev_ifn c1 (Ev.now _)
theorem iNetOk_ev (nx : Int) (l : List FS) : Ev (fun k => impl_NetOk.f k nx l) (netOk nx l) := by
  unfold impl_NetOk.f netOk
  simp only [in_eq, Option.bind_some, decide_eq_true_eq]
  by_cases c : 0 ≤ nx ∧ nx ≤ 1000000
  · rw [if_pos c]
    refine ev_if c (Ev.step (fun k => by simp only [impl_NetOk.j0]; rfl) ?_)
    simp only [decide_eq_true_eq]
    by_cases c2 : (l.length : Int) > 40
    · rw [if_pos c2]
      exact ev_if c2 (Ev.now _)
    · rw [if_neg c2]
      refine ev_ifn c2 ?_
      simpa using iNetOk_l0 nx c l (by omega) l.length 0 [] (by omega) (by simp)
  · rw [if_neg c]
    refine ev_ifn c (Ev.step (fun k => by simp only [impl_NetOk.j0]; rfl) ?_)
    exact ev_if trivial (Ev.now _)
theorem mem_take_ids (l : List FS) (i : Nat) (hi : i < l.length) (x : Int) : (x ∈ (l.take (i + 1)).map (fun f => f.f0)) ↔ (x ∈ (l.take i).map (fun f => f.f0)) ∨ x = (l[i]).f0 := by
  rw [List.take_succ_eq_append_getElem hi, List.map_append, List.mem_append]
  simp
theorem ids_snoc (l : List FS) (i : Nat) (hi : i < l.length) : (l.take i).map (fun f => f.f0) ++ [(l[i]).f0] = (l.take (i + 1)).map (fun f => f.f0) := by
  rw [List.take_succ_eq_append_getElem hi, List.map_append]
  rfl
theorem sNetOk_l1 (nx : Int) (l : List FS) (hl : l.length ≤ 40) (i : Nat) (hi : i < l.length) (R : Bool) (hR : Ev (fun k => spec_NetOk.l0 k ((i + 1 : Nat) : Int) nx l) R) (d : Nat) : ∀ j : Nat, j + d = i → (l[i]).f0 ∉ (l.take j).map (fun f => f.f0) →
    Ev (fun k => spec_NetOk.l1 k (i : Int) (j : Int) nx l) (if (l[i]).f0 ∈ (l.take i).map (fun f => f.f0) then false else R) := by
  induction d with
  | zero =>
    intro j h hn
    have hji : j = i := by omega
    subst hji
    refine Ev.step (fun k => by simp only [spec_NetOk.l1]; rfl) ?_
    simp only [show ¬ ((j : Int) < (j : Int)) by omega, if_false]
    rw [if_neg hn, w64 (by omega) (by omega)]
    exact hR
  | succ d ih =>
    intro j h hn
    refine Ev.step (fun k => by simp only [spec_NetOk.l1]; rfl) ?_
    simp only [show (j : Int) < (i : Int) by omega, show (0 : Int) ≤ (j : Int) by omega, show (j : Int) < (l.length : Int) by omega, show (0 : Int) ≤ (i : Int) by omega, show (i : Int) < (l.length : Int) by omega, if_true]
    rw [rdF_nat l j (by omega), rdF_nat l i (by omega), w64 (by omega) (by omega)]
    by_cases c : (l[j]'(by omega)).f0 = (l[i]).f0
    · refine ev_if c ?_
      have hm : (l[i]).f0 ∈ (l.take i).map (fun f => f.f0) := by
        refine List.mem_map.2 ⟨l[j]'(by omega), ?_, c⟩
        exact List.mem_take_iff_getElem.2 ⟨j, by omega, rfl⟩
      rw [if_pos hm]
      exact Ev.now _
    · refine ev_ifn c ?_
      refine ih (j + 1) (by omega) ?_
      rw [mem_take_ids l j (by omega)]
      rintro (h1 | h1)
      · exact hn h1
      · exact c h1.symm
theorem sNetOk_l0 (nx : Int) (h0 : 0 ≤ nx ∧ nx ≤ 1000000) (l : List FS) (hl : l.length ≤ 40) (d : Nat) : ∀ (i : Nat), i + d = l.length → Ev (fun k => spec_NetOk.l0 k (i : Int) nx l) (netL nx (l.drop i) ((l.take i).map (fun f => f.f0))) := by
  induction d with
  | zero =>
    intro i h
    refine Ev.step (fun k => by simp only [spec_NetOk.l0]; rfl) ?_
    simp only [show ¬ ((i : Int) < (l.length : Int)) by omega, if_false]
    rw [List.drop_eq_nil_of_le (by omega), netL]
    exact Ev.now _
  | succ d ih =>
    intro i h
    have hi : i < l.length := by omega
    have h1 := sNetOk_l1 nx l hl i hi _ (ih (i + 1) (by omega)) i 0 (by omega) (by simp)
    have hs := ids_snoc l i hi
    have hr := rdF_nat l i hi
    refine Ev.step (fun k => by simp only [spec_NetOk.l0]; rfl) ?_
    simp only [show (i : Int) < (l.length : Int) by omega, show (0 : Int) ≤ (i : Int) by omega, if_true]
    rw [List.drop_eq_getElem_cons hi, netL, w64 (x := nx - 1) (by omega) (by omega), hs]
    rw [hr]
    generalize l[i]'(by omega) = f at *
    simp only [sFlightOk_eq, l1In_eq, Option.bind_some]
    by_cases c1 : fOk f = true
    · rw [if_pos c1]
      refine ev_if c1 ?_
      by_cases c2 : 0 ≤ f.f0 ∧ f.f0 ≤ nx - 1
      · rw [if_pos c2]
        refine Ev.step (fun k => by simp only [spec_NetOk.j2]; rfl) ?_
        simp only [c2, and_self, decide_true, Bool.not_true, Bool.false_eq_true, if_false]
        exact h1
      · rw [if_neg c2]
        refine Ev.step (fun k => by simp only [spec_NetOk.j2]; rfl) ?_
        simp only [c2, decide_false, Bool.not_false, if_true]
        exact Ev.now _
    · rw [if_neg c1]
      refine ev_ifn c1 (Ev.step (fun k => by simp only [spec_NetOk.j2]; rfl) ?_)
      exact ev_if trivial (Ev.now _)
theorem sNetOk_ev (nx : Int) (l : List FS) : Ev (fun k => spec_NetOk.f k nx l) (netOk nx l) := by
  unfold spec_NetOk.f netOk
  simp only [l1In_eq, Option.bind_some, decide_eq_true_eq]
  by_cases c : 0 ≤ nx ∧ nx ≤ 1000000
  · rw [if_pos c]
    refine ev_if c (Ev.step (fun k => by simp only [spec_NetOk.j0]; rfl) ?_)
    simp only [decide_eq_true_eq]
    by_cases c2 : (l.length : Int) > 40
    · rw [if_pos c2]
      exact ev_if c2 (Ev.now _)
    · rw [if_neg c2]
      refine ev_ifn c2 ?_
      simpa using sNetOk_l0 nx c l (by omega) l.length 0 (by omega)
  · rw [if_neg c]
    refine ev_ifn c (Ev.step (fun k => by simp only [spec_NetOk.j0]; rfl) ?_)
    exact ev_if trivial (Ev.now _)
def forL (t : Int) : List FS → Nat → List Int
  | [], _ => []
  | f :: r, i => if f.f2 = t then (i : Int) :: forL t r (i + 1) else forL t r (i + 1)
theorem forL_len (t : Int) (l : List FS) : ∀ i, (forL t l i).length ≤ l.length := by
  induction l with
  | nil => intro i; simp [forL]
  | cons f r ih =>
    intro i
    rw [forL]
    have := ih (i + 1)
    split <;> simp only [List.length_cons] <;> omega
def netFor (nx : Int) (l : List FS) (t : Int) : List Int := if netOk nx l = true then forL t l 0 else []
theorem iPlaces_l0 (t : Int) (l : List FS) (hl : l.length ≤ 1000000) (d : Nat) : ∀ (i : Nat) (acc : List Int), i + d = l.length → acc.length ≤ i → Ev (fun k => impl_places_37.l0 k acc l (l.length : Int) (i : Int) t) (acc ++ forL t (l.drop i) i) := by
  induction d with
  | zero =>
    intro i acc h ha
    refine Ev.step (fun k => by simp only [impl_places_37.l0]; rfl) ?_
    simp only [show ¬ ((i : Int) < (l.length : Int)) by omega, if_false]
    rw [List.drop_eq_nil_of_le (by omega), forL, List.append_nil]
    exact Ev.now _
  | succ d ih =>
    intro i acc h ha
    refine Ev.step (fun k => by simp only [impl_places_37.l0]; rfl) ?_
    simp only [show (i : Int) < (l.length : Int) by omega, show (0 : Int) ≤ (i : Int) by omega, if_true]
    rw [rdF_nat l i (by omega), List.drop_eq_getElem_cons (show i < l.length by omega), forL, w64 (x := (i : Int) + 1) (by omega) (by omega)]
    simp only [impl_NetFor_1.f, Option.bind_some, decide_eq_true_eq]
    by_cases c : (l[i]'(by omega)).f2 = t
    · rw [if_pos c]
      refine ev_if c (ev_if (by omega) ?_)
      have := ih (i + 1) (acc ++ [(i : Int)]) (by omega) (by rw [List.length_append, List.length_singleton]; omega)
      rw [List.append_assoc, List.singleton_append] at this
      exact this
    · rw [if_neg c]
      exact ev_ifn c (ih (i + 1) acc (by omega) (by omega))
theorem iNetFor_ev (nx : Int) (l : List FS) (t : Int) : Ev (fun k => impl_NetFor.f k nx l t) (netFor nx l t) := by
  unfold impl_NetFor.f netFor
  refine Ev.bind (iNetOk_ev nx l) ?_
  by_cases c : netOk nx l = true
  · have hl := netOk_len c
    rw [if_pos c]
    refine ev_if c ?_
    unfold impl_places_37.f
    have := iPlaces_l0 t l (by omega) l.length 0 [] (by omega) (by simp)
    refine Ev.bind (by simpa using this) (Ev.now _)
  · rw [if_neg c]
    exact ev_ifn c (Ev.now _)
def keepF (t : Int) (f : FS) : Bool := decide (¬ (f.f1 = t ∨ f.f2 = t))
def netCut (nx : Int) (l : List FS) (t : Int) : Int × List FS := if netOk nx l = true then (nx, l.filter (keepF t)) else (0, [])
theorem netCut_len (nx : Int) (l : List FS) (t : Int) : (netCut nx l t).2.length ≤ 40 := by
  unfold netCut
  split
  · next h =>
    have := netOk_len h
    have := List.length_filter_le (keepF t) l
    simp only
    omega
  · simp
theorem cut1_eq (t : Int) (f : FS) : impl_NetCut_1.f f.f0 f.f1 f.f2 f.f3 f.f4 t = some (!keepF t f) := by
  unfold impl_NetCut_1.f keepF
  by_cases c : f.f1 = t <;> by_cases c2 : f.f2 = t <;> simp [c, c2]
/-- The first place of an element that falls. -/
theorem iIndex_l0 (t : Int) (l : List FS) (hl : l.length ≤ 1000000) (d : Nat) : ∀ (i : Nat), i + d = l.length → (∀ f ∈ l.take i, keepF t f = true) →
    (Ev (fun k => slices_IndexFunc_40.l0 k l (l.length : Int) (i : Int) t) (-1) ∧ ∀ f ∈ l, keepF t f = true) ∨
    (∃ j : Nat, j < l.length ∧ Ev (fun k => slices_IndexFunc_40.l0 k l (l.length : Int) (i : Int) t) (j : Int) ∧ (∀ f ∈ l.take j, keepF t f = true) ∧ ∀ h : j < l.length, keepF t l[j] = false) := by
  induction d with
  | zero =>
    intro i h hk
    left
    constructor
    · refine Ev.step (fun k => by simp only [slices_IndexFunc_40.l0]; rfl) ?_
      simp only [show ¬ ((i : Int) < (l.length : Int)) by omega, if_false]
      exact Ev.now _
    · rw [List.take_of_length_le (by omega)] at hk
      exact hk
  | succ d ih =>
    intro i h hk
    have hil : i < l.length := by omega
    have step : ∀ (R : Int), (Ev (fun k => if (!keepF t (l[i]'hil)) = true then some (i : Int) else slices_IndexFunc_40.l0 k l (l.length : Int) ((i + 1 : Nat) : Int) t) R) → Ev (fun k => slices_IndexFunc_40.l0 k l (l.length : Int) (i : Int) t) R := by
      intro R hR
      refine Ev.step (fun k => by simp only [slices_IndexFunc_40.l0]; rfl) ?_
      simp only [show (i : Int) < (l.length : Int) by omega, show (0 : Int) ≤ (i : Int) by omega, if_true]
      rw [rdF_nat l i hil, w64 (x := (i : Int) + 1) (by omega) (by omega)]
      simp only [cut1_eq, Option.bind_some]
      exact hR
    by_cases c : keepF t (l[i]'hil) = true
    · have hk2 : ∀ f ∈ l.take (i + 1), keepF t f = true := by
        rw [List.take_succ_eq_append_getElem hil]
        intro f hf
        rcases List.mem_append.1 hf with h1 | h1
        · exact hk f h1
        · rw [List.mem_singleton.1 h1]
          exact c
      rcases ih (i + 1) (by omega) hk2 with ⟨h1, h2⟩ | ⟨j, h1, h2, h3, h4⟩
      · exact .inl ⟨step _ (ev_ifn (by simp [c]) h1), h2⟩
      · exact .inr ⟨j, h1, step _ (ev_ifn (by simp [c]) h2), h3, h4⟩
    · exact .inr ⟨i, hil, step _ (ev_if (by simp [c]) (Ev.now _)), hk, fun _ => by simpa using c⟩
theorem filter_all {t : Int} {l : List FS} (h : ∀ f ∈ l, keepF t f = true) : l.filter (keepF t) = l := List.filter_eq_self.2 h
theorem iDelete_l0 (t : Int) (l : List FS) (hl : l.length ≤ 1000000) (d : Nat) : ∀ (i j : Nat) (x : List FS), j + d = l.length → i ≤ j → x.length = l.length → x.take i = (l.take j).filter (keepF t) → x.drop j = l.drop j →
    Ev (fun k => slices_DeleteFunc_40.l0 k x (i : Int) (j : Int) t) (l.filter (keepF t)) := by
  induction d with
  | zero =>
    intro i j x h hij hx ht hd
    refine Ev.step (fun k => by simp only [slices_DeleteFunc_40.l0]; rfl) ?_
    simp only [show ¬ ((j : Int) < (x.length : Int)) by omega, show (0 : Int) ≤ (i : Int) by omega, show (i : Int) ≤ (x.length : Int) by omega, if_true, if_false, Int.toNat_natCast]
    rw [ht, List.take_of_length_le (by omega)]
    exact Ev.now _
  | succ d ih =>
    intro i j x h hij hx ht hd
    have hjl : j < l.length := by omega
    have hg : x[j]'(by omega) = l[j] := by
      have e1 : (x.drop j)[0]? = (l.drop j)[0]? := by rw [hd]
      rw [List.getElem?_drop, List.getElem?_drop, Nat.add_zero, List.getElem?_eq_getElem (by omega), List.getElem?_eq_getElem hjl] at e1
      exact Option.some.inj e1
    refine Ev.step (fun k => by simp only [slices_DeleteFunc_40.l0]; rfl) ?_
    simp only [show (j : Int) < (x.length : Int) by omega, show (0 : Int) ≤ (j : Int) by omega, if_true]
    rw [rdF_nat x j (by omega), hg, w64 (x := (j : Int) + 1) (by omega) (by omega)]
    simp only [cut1_eq, Option.bind_some]
    have hd2 : x.drop (j + 1) = l.drop (j + 1) := by
      rw [← List.drop_drop, hd, List.drop_drop]
    by_cases c : keepF t (l[j]'hjl) = true
    · refine ev_ifn (by simp [c]) ?_
      simp only [show (0 : Int) ≤ (i : Int) by omega, show (i : Int) < (x.length : Int) by omega, if_true, Int.toNat_natCast]
      rw [w64 (x := (i : Int) + 1) (by omega) (by omega)]
      refine ih (i + 1) (j + 1) _ (by omega) (by omega) (by rw [List.length_set]; exact hx) ?_ ?_
      · rw [List.take_succ_eq_append_getElem (by rw [List.length_set]; omega), List.getElem_set_self, List.take_set_of_le (Nat.le_refl i), ht, List.take_succ_eq_append_getElem hjl, List.filter_append]
        simp [c]
      · rw [List.drop_set_of_lt (by omega), hd2]
    · refine ev_if (by simp [c]) ?_
      refine ih i (j + 1) x (by omega) (by omega) hx ?_ hd2
      rw [ht, List.take_succ_eq_append_getElem hjl, List.filter_append]
      simp [c]
theorem iDelete_ev (t : Int) (l : List FS) (hl : l.length ≤ 1000000) : Ev (fun k => slices_DeleteFunc_40.f k l t) (l.filter (keepF t)) := by
  unfold slices_DeleteFunc_40.f slices_IndexFunc_40.f
  rcases iIndex_l0 t l hl l.length 0 (by omega) (by simp) with ⟨h1, h2⟩ | ⟨j, h1, h2, h3, h4⟩
  · refine Ev.bind (by simpa using h1) (ev_if rfl ?_)
    rw [filter_all h2]
    exact Ev.now _
  · refine Ev.bind (by simpa using h2) (ev_ifn (by omega) ?_)
    rw [w64 (x := (j : Int) + 1) (by omega) (by omega)]
    refine iDelete_l0 t l hl (l.length - (j + 1)) j (j + 1) l (by omega) (by omega) rfl ?_ rfl
    rw [List.take_succ_eq_append_getElem h1, List.filter_append, filter_all h3]
    simp [h4 h1]
theorem iNetCut_ev (nx : Int) (l : List FS) (t : Int) : Ev (fun k => impl_NetCut.f k nx l t) (netCut nx l t) := by
  unfold impl_NetCut.f netCut
  refine Ev.bind (iNetOk_ev nx l) ?_
  by_cases c : netOk nx l = true
  · have hl := netOk_len c
    rw [if_pos c]
    refine ev_if c ?_
    have hc : slices_Clone.f l = some l := by
      unfold slices_Clone.f
      simp
      omega
    simp only [hc, Option.bind_some]
    exact Ev.bind (iDelete_ev t l (by omega)) (Ev.now _)
  · rw [if_neg c]
    exact ev_ifn c (Ev.now _)
theorem l4DrawBody_l0 (b : List Int) (n : Nat) (hn : n ≤ 1000) (d : Nat) : ∀ (i : Nat) (acc : List Int) (c h : Int), i + d = n → acc.length ≤ i → Cu b c → ∃ s c' h', Ev (fun k => spec_l4DrawBody.l0 k acc (n : Int) (i : Int) b c h) (s, c', h') ∧ Cu b c' := by
  induction d with
  | zero =>
    intro i acc c h hi ha hc
    refine ⟨strOfNums acc, c, h, Ev.step (fun k => by simp only [spec_l4DrawBody.l0]; rfl) ?_, hc⟩
    exact ev_ifn (by omega) (Ev.now _)
  | succ d ih =>
    intro i acc c h hi ha hc
    obtain ⟨x, c1, h1, e, _, hc1⟩ := l1PickInt_ok h [97, 98, 99, 32, 48, 0, 255, 128, 34, 92] (by simp) (by simp) hc
    obtain ⟨s, c2, h2, he, hc2⟩ := ih (i + 1) (acc ++ [x % 256]) c1 h1 (by omega) (by rw [List.length_append, List.length_singleton]; omega) hc1
    refine ⟨s, c2, h2, Ev.step (fun k => by simp only [spec_l4DrawBody.l0]; rfl) ?_, hc2⟩
    refine ev_if (by omega) ?_
    simp only [e, Option.bind_some]
    refine ev_if (by omega) ?_
    rw [w64 (x := (i : Int) + 1) (by omega) (by omega)]
    exact he
theorem l4DrawBody_ev (b : List Int) (c h most : Int) (h0 : 0 ≤ most) (h1 : most ≤ 100) (hc : Cu b c) : ∃ s c' h', Ev (fun k => spec_l4DrawBody.f k b c h most) (s, c', h') ∧ Cu b c' := by
  unfold spec_l4DrawBody.f
  rw [w64 (x := most + 1) (by omega) (by omega)]
  obtain ⟨x, c1, h1, e, hx0, hx1, _, _, hc1⟩ := l1Below_ok h (most + 1) (by omega) hc
  have := hx1 (by omega)
  simp only [e, Option.bind_some]
  obtain ⟨n, rfl⟩ := Int.eq_ofNat_of_zero_le hx0
  obtain ⟨s, c2, h2, he, hc2⟩ := l4DrawBody_l0 b n (by omega) n 0 [] c1 h1 (by omega) (by simp) hc1
  exact ⟨s, c2, h2, by simpa using he, hc2⟩
theorem l5DrawNet_l0 (b : List Int) (n : Nat) (hn : n ≤ 1000) (d : Nat) : ∀ (i : Nat) (acc : List FS) (c h nx : Int), i + d = n → acc.length = i → Cu b c → ∃ r, Ev (fun k => spec_l5DrawNet.l0 k (n : Int) (i : Int) b c h nx acc) r ∧ r.2.1.length = n ∧ Cu b r.2.2.1 := by
  induction d with
  | zero =>
    intro i acc c h nx hi ha hc
    obtain ⟨x, c1, h1, e, hc1⟩ := l1Once_ok h 15 (by omega) hc
    by_cases q : x = true
    · refine ⟨(1000000, acc, c1, h1), Ev.step (fun k => by simp only [spec_l5DrawNet.l0]; rfl) (ev_ifn (show ¬ ((i : Int) < (n : Int)) by omega) ?_), by simp only; omega, hc1⟩
      simp only [e, Option.bind_some]
      exact ev_if q (Ev.now _)
    · refine ⟨(nx, acc, c1, h1), Ev.step (fun k => by simp only [spec_l5DrawNet.l0]; rfl) (ev_ifn (show ¬ ((i : Int) < (n : Int)) by omega) ?_), by simp only; omega, hc1⟩
      simp only [e, Option.bind_some]
      exact ev_ifn q (Ev.now _)
  | succ d ih =>
    intro i acc c h nx hi ha hc
    obtain ⟨x1, c1, h1, e1, _, _, _, _, hc1⟩ := l1Below_ok h 8 (by omega) hc
    obtain ⟨x2, c2, h2, e2, _, _, _, _, hc2⟩ := l1Below_ok h1 4 (by omega) hc1
    obtain ⟨s, c3, h3, e3, hc3⟩ := l4DrawBody_ev b c2 h2 4 (by omega) (by omega) hc2
    obtain ⟨x4, c4, h4, e4, _, _, _, _, hc4⟩ := l1Below_ok h3 90 (by omega) hc3
    obtain ⟨x5, c5, h5, e5, _, _, _, _, hc5⟩ := l1Below_ok h4 2 (by omega) hc4
    obtain ⟨r, hr, hr2⟩ := ih (i + 1) (acc ++ [(⟨nx, x1, x2, s, x4⟩ : FS)]) c5 h5 (wrap64 (wrap64 (nx + 1) + x5)) (by omega) (by rw [List.length_append, List.length_singleton]; omega) hc5
    refine ⟨r, Ev.step (fun k => by simp only [spec_l5DrawNet.l0]; rfl) (ev_if (by omega) ?_), hr2⟩
    simp only [e1, e2, Option.bind_some]
    refine Ev.bind e3 ?_
    simp only [e4, Option.bind_some]
    refine ev_if (by omega) ?_
    simp only [e5, Option.bind_some]
    rw [w64 (x := (i : Int) + 1) (by omega) (by omega)]
    exact hr
theorem l5DrawNet_ev (b : List Int) (c h : Int) (hc : Cu b c) : ∃ r, Ev (fun k => spec_l5DrawNet.f k b c h) r ∧ r.2.1.length ≤ 1000 ∧ Cu b r.2.2.1 := by
  unfold spec_l5DrawNet.f
  obtain ⟨x1, c1, h1, e1, _, _, _, _, hc1⟩ := l1Below_ok h 4 (by omega) hc
  obtain ⟨x2, c2, h2, e2, g0, g1, _, _, hc2⟩ := l1Below_ok h1 8 (by omega) hc1
  obtain ⟨x3, c3, h3, e3, hc3⟩ := l1Once_ok h2 15 (by omega) hc2
  have := g1 (by omega)
  simp only [e1, e2, e3, Option.bind_some]
  by_cases q : x3 = true
  · obtain ⟨r, hr, hr2, hr3⟩ := l5DrawNet_l0 b 40 (by omega) 40 0 [] c3 h3 x1 (by omega) rfl hc3
    exact ⟨r, ev_if q (Ev.step (fun k => by simp only [spec_l5DrawNet.j0]; rfl) (by simpa using hr)), by omega, hr3⟩
  · obtain ⟨n, rfl⟩ := Int.eq_ofNat_of_zero_le g0
    obtain ⟨r, hr, hr2, hr3⟩ := l5DrawNet_l0 b n (by omega) n 0 [] c3 h3 x1 (by omega) rfl hc3
    exact ⟨r, ev_ifn q (Ev.step (fun k => by simp only [spec_l5DrawNet.j0]; rfl) (by simpa using hr)), by omega, hr3⟩
theorem l5DrawAny_ev (b : List Int) (c h : Int) (hc : Cu b c) : ∃ r, Ev (fun k => spec_l5DrawAny.f k b c h) r ∧ r.2.1.length ≤ 1001 ∧ Cu b r.2.2.1 := by
  unfold spec_l5DrawAny.f
  obtain ⟨r, hr, hr2, hr3⟩ := l5DrawNet_ev b c h hc
  obtain ⟨nx, l, c1, h1⟩ := r
  simp only at hr2 hr3
  obtain ⟨x, c2, h2, e2, _, _, _, _, hc2⟩ := l1Below_ok h1 25 (by omega) hr3
  by_cases q0 : x = 0
  · obtain ⟨y, c3, h3, e3, _, hc3⟩ := l1PickInt_ok h2 [(-1), 0, 1000001] (by simp) (by simp) hc2
    refine ⟨(y, l, c3, h3), Ev.bind hr ?_, by simp only; omega, hc3⟩
    simp only [e2, Option.bind_some]
    refine ev_if q0 ?_
    simp only [e3, Option.bind_some]
    exact Ev.now _
  · by_cases q1 : x = 1
    · obtain ⟨y, c3, h3, e3, _, _, _, _, hc3⟩ := l1Below_ok h2 9 (by omega) hc2
      refine ⟨(nx, l ++ [(⟨0, y, 0, (⟨#[]⟩ : ByteArray), 0⟩ : FS)], c3, h3), Ev.bind hr ?_, by simp only [List.length_append, List.length_singleton]; omega, hc3⟩
      simp only [e2, Option.bind_some]
      refine ev_ifn q0 (ev_if q1 ?_)
      simp only [e3, Option.bind_some]
      exact ev_if (by omega) (Ev.now _)
    · by_cases q2 : x = 2
      · obtain ⟨y, c3, h3, e3, _, _, _, _, hc3⟩ := l1Below_ok h2 2 (by omega) hc2
        refine ⟨(nx, l ++ [(⟨wrap64 (nx - 1), 0, 0, (⟨#[]⟩ : ByteArray), wrap64 (1000000000000 + y)⟩ : FS)], c3, h3), Ev.bind hr ?_, by simp only [List.length_append, List.length_singleton]; omega, hc3⟩
        simp only [e2, Option.bind_some]
        refine ev_ifn q0 (ev_ifn q1 (ev_if q2 ?_))
        simp only [e3, Option.bind_some]
        exact ev_if (by omega) (Ev.now _)
      · refine ⟨(nx, l, c2, h2), Ev.bind hr ?_, by simp only; omega, hc2⟩
        simp only [e2, Option.bind_some]
        exact ev_ifn q0 (ev_ifn q1 (ev_ifn q2 (Ev.now _)))
theorem DrawNetCut_ev (b : List Int) (hb : b.length ≤ 1048576) : ∃ r, Ev (fun k => spec_DrawNetCut.f k b) r := by
  unfold spec_DrawNetCut.f
  obtain ⟨h, e⟩ := l1New_ev b hb
  obtain ⟨r, hr, _, hc⟩ := l5DrawAny_ev b 0 h (cu0 hb)
  obtain ⟨nx, l, c1, h1⟩ := r
  simp only at hc
  obtain ⟨x, c2, h2, e2, _, _, _, _, hc2⟩ := l1Below_ok h1 9 (by omega) hc
  obtain ⟨y, c3, h3, e3, _, _, _, _, hc3⟩ := l1Below_ok h2 20 (by omega) hc2
  refine ⟨(nx, l, wrap64 (x - (wrap64 (Int.tdiv y 19)))), Ev.bind e (Ev.bind hr ?_)⟩
  simp only [e2, e3, Option.bind_some]
  exact Ev.now _
theorem netL_fOk {nx : Int} {l : List FS} : ∀ {sn : List Int}, netL nx l sn = true → ∀ f ∈ l, fOk f = true := by
  induction l with
  | nil => intro sn _ f hf; simp at hf
  | cons a l ih =>
    intro sn h f hf
    rw [netL] at h
    split at h
    · next h1 =>
      split at h
      · split at h
        · exact absurd h (by decide)
        · rcases List.mem_cons.1 hf with rfl | hf
          · exact h1
          · exact ih h f hf
      · exact absurd h (by decide)
    · exact absurd h (by decide)
theorem netL_filter {nx : Int} (p : FS → Bool) {l : List FS} : ∀ {sn sn' : List Int}, netL nx l sn = true → (∀ x ∈ sn', x ∈ sn) → netL nx (l.filter p) sn' = true := by
  induction l with
  | nil => intro sn sn' _ _; simp [netL]
  | cons a l ih =>
    intro sn sn' h hs
    rw [netL] at h
    split at h
    · next h1 =>
      split at h
      · next h2 =>
        split at h
        · exact absurd h (by decide)
        · next h3 =>
          rw [List.filter_cons]
          split
          · rw [netL, if_pos h1, if_pos h2, if_neg (fun hm => h3 (hs _ hm))]
            refine ih h (fun x hx => ?_)
            rcases List.mem_append.1 hx with hx | hx
            · exact List.mem_append_left _ (hs x hx)
            · exact List.mem_append_right _ hx
          · exact ih h (fun x hx => List.mem_append_left _ (hs x hx))
      · exact absurd h (by decide)
    · exact absurd h (by decide)
theorem netOk_parts {nx : Int} {l : List FS} (h : netOk nx l = true) : (0 ≤ nx ∧ nx ≤ 1000000) ∧ l.length ≤ 40 ∧ netL nx l [] = true := by
  have hl := netOk_len h
  unfold netOk at h
  split at h
  · next h1 =>
    split at h
    · exact absurd h (by decide)
    · exact ⟨h1, hl, h⟩
  · exact absurd h (by decide)
theorem netOk_cut {nx : Int} {l : List FS} (h : netOk nx l = true) (p : FS → Bool) : netOk nx (l.filter p) = true := by
  obtain ⟨h1, h2, h3⟩ := netOk_parts h
  have := List.length_filter_le p l
  unfold netOk
  rw [if_pos h1, if_neg (by omega)]
  exact netL_filter p h3 (fun x hx => hx)
theorem forL_mem (t : Int) (l : List FS) : ∀ (i : Nat) (x : Int), x ∈ forL t l i → ∃ j : Nat, x = ((i + j : Nat) : Int) ∧ ∃ h : j < l.length, (l[j]).f2 = t := by
  induction l with
  | nil => intro i x h; simp [forL] at h
  | cons f r ih =>
    intro i x h
    rw [forL] at h
    have tl : x ∈ forL t r (i + 1) → ∃ j : Nat, x = ((i + j : Nat) : Int) ∧ ∃ h : j < (f :: r).length, ((f :: r)[j]).f2 = t := by
      intro h1
      obtain ⟨j, hj, hl, hf⟩ := ih (i + 1) x h1
      exact ⟨j + 1, by omega, by simpa using hl, by simpa using hf⟩
    split at h
    · next hf =>
      rcases List.mem_cons.1 h with rfl | h1
      · exact ⟨0, by omega, by simp, by simpa using hf⟩
      · exact tl h1
    · exact tl h
theorem forL_count (t : Int) (l : List FS) : ∀ i, (forL t l i).length + (l.filter (fun f => decide (f.f2 < t))).length = (l.filter (fun f => decide (f.f2 < t + 1))).length := by
  induction l with
  | nil => intro i; simp [forL]
  | cons f r ih =>
    intro i
    have := ih (i + 1)
    rw [forL, List.filter_cons, List.filter_cons]
    by_cases c : f.f2 = t
    · rw [if_pos c, if_neg (by simp; omega), if_pos (by simp; omega)]
      simp only [List.length_cons]
      omega
    · rw [if_neg c]
      by_cases c2 : f.f2 < t
      · rw [if_pos (by simpa using c2), if_pos (by simp; omega)]
        simp only [List.length_cons]
        omega
      · rw [if_neg (by simpa using c2), if_neg (by simp; omega)]
        exact this
theorem mail_l2 (nx node : Int) (l : List FS) (c : netOk nx l = true) (d : Nat) : ∀ i : Nat, i + d = l.length → Ev (fun k => laws_FnMailFor.l2 k node (l.length : Int) (((l.take i).filter (keepF node)).length : Int) (i : Int) nx l nx (l.filter (keepF node))) true := by
  have hl := netOk_len c
  induction d with
  | zero =>
    intro i hi
    refine Ev.step (fun k => by simp only [laws_FnMailFor.l2]; rfl) ?_
    rw [List.take_of_length_le (by omega)]
    refine ev_ifn (by omega) (ev_if (by first | rfl | trivial) (ev_if (by first | rfl | trivial) ?_))
    have h := iNetOk_ev nx (l.filter (keepF node))
    rw [netOk_cut c] at h
    exact Ev.bind h (Ev.now _)
  | succ d ih =>
    intro i hi
    have hil : i < l.length := by omega
    have ih' := ih (i + 1) (by omega)
    rw [List.take_succ_eq_append_getElem hil, List.filter_append, List.length_append] at ih'
    have e : l.filter (keepF node) = (l.take i).filter (keepF node) ++ (l.drop i).filter (keepF node) := by rw [← List.filter_append, List.take_append_drop]
    have hlen : ((l.take i).filter (keepF node)).length ≤ 40 := by
      have h1 := List.length_filter_le (keepF node) (l.take i)
      rw [List.length_take] at h1
      omega
    refine Ev.step (fun k => by simp only [laws_FnMailFor.l2]; rfl) ?_
    refine ev_if (by omega) (ev_if (by omega) ?_)
    rw [rdF_nat l i hil]
    by_cases c1 : (l[i]).f1 = node
    · rw [List.filter_cons_of_neg (by unfold keepF; simp [c1]), List.filter_nil, List.length_nil, Nat.add_zero] at ih'
      refine ev_if c1 (Ev.step (fun k => by simp only [laws_FnMailFor.j3]; rfl) (ev_ifn (by decide) ?_))
      rw [w64 (x := (i : Int) + 1) (by omega) (by omega)]
      exact ih'
    · refine ev_ifn c1 (Ev.step (fun k => by simp only [laws_FnMailFor.j3]; rfl) ?_)
      by_cases c2 : (l[i]).f2 = node
      · rw [List.filter_cons_of_neg (by unfold keepF; simp [c2]), List.filter_nil, List.length_nil, Nat.add_zero] at ih'
        refine ev_ifn (by simp [c2]) ?_
        rw [w64 (x := (i : Int) + 1) (by omega) (by omega)]
        exact ih'
      · have hk : keepF node (l[i]) = true := by unfold keepF; simp [c1, c2]
        rw [List.filter_cons_of_pos hk, List.filter_nil, List.length_singleton] at ih'
        refine ev_if (by simp [c2]) ?_
        have hlt : ((l.take i).filter (keepF node)).length < (l.filter (keepF node)).length := by
          rw [e, List.length_append, List.drop_eq_getElem_cons hil, List.filter_cons_of_pos hk, List.length_cons]
          omega
        have hget : (l.filter (keepF node))[((l.take i).filter (keepF node)).length]'hlt = l[i] := by
          have h1 : (l.filter (keepF node))[((l.take i).filter (keepF node)).length]? = some l[i] := by
            rw [e, List.getElem?_append_right (Nat.le_refl _), Nat.sub_self, List.drop_eq_getElem_cons hil, List.filter_cons_of_pos hk]
            rfl
          rw [List.getElem?_eq_getElem hlt] at h1
          exact Option.some.inj h1
        refine ev_ifn (by omega) (ev_if (by omega) (ev_if (by omega) (ev_if (by omega) (ev_if (by omega) ?_))))
        rw [rdF_nat _ _ hlt, hget, rdF_nat l i hil, w64 (x := (i : Int) + 1) (by omega) (by omega), w64 (by omega) (by omega)]
        refine ev_ifn (by simp) ?_
        exact ih'
theorem mail_l1 (nx node sum t : Int) (l : List FS) (hl : l.length ≤ 40) (r : List Int) (hr : ∀ x ∈ r, ∃ j : Nat, x = (j : Int) ∧ ∃ h : j < l.length, (l[j]).f2 = t) (hrl : r.length ≤ 40) (R : Bool) (hR : Ev (fun k => laws_FnMailFor.l0 k node sum (wrap64 (t + 1)) nx l) R) (d : Nat) : ∀ i : Nat, i + d = r.length →
    Ev (fun k => laws_FnMailFor.l1 k node sum t r (i : Int) nx l) R := by
  induction d with
  | zero =>
    intro i hi
    refine Ev.step (fun k => by simp only [laws_FnMailFor.l1]; rfl) ?_
    exact ev_ifn (by omega) hR
  | succ d ih =>
    intro i hi
    obtain ⟨j, hj, hjl, hjt⟩ := hr (r[i]'(by omega)) (List.getElem_mem _)
    have hrd : rd r (i : Int) = (j : Int) := by
      unfold rd
      rw [List.getD_eq_getElem?_getD]
      simp [List.getElem?_eq_getElem (show i < r.length by omega), hj]
    refine Ev.step (fun k => by simp only [laws_FnMailFor.l1]; rfl) ?_
    simp only [hrd]
    refine ev_if (by omega) (ev_if (by omega) (ev_ifn (by omega) (ev_ifn (by omega) (ev_if (by omega) (ev_if (by omega) ?_)))))
    rw [rdF_nat l j hjl, w64 (x := (i : Int) + 1) (by omega) (by omega)]
    exact ev_if hjt (ih (i + 1) (by omega))
theorem mail_l0 (nx node : Int) (l : List FS) (c : netOk nx l = true) (d : Nat) : ∀ t : Nat, t + d = 8 → Ev (fun k => laws_FnMailFor.l0 k node ((l.filter (fun f => decide (f.f2 < (t : Int)))).length : Int) (t : Int) nx l) true := by
  have hl := netOk_len c
  have hf := netL_fOk (netOk_parts c).2.2
  induction d with
  | zero =>
    intro t ht
    refine Ev.step (fun k => by simp only [laws_FnMailFor.l0]; rfl) ?_
    refine ev_ifn (by omega) ?_
    have hall : l.filter (fun f => decide (f.f2 < (t : Int))) = l := by
      refine List.filter_eq_self.2 (fun f hm => ?_)
      have := hf f hm
      unfold fOk at this
      have := of_decide_eq_true this
      exact decide_eq_true (by omega)
    rw [hall]
    have hc := iNetCut_ev nx l node
    unfold netCut at hc
    rw [if_pos c] at hc
    refine Ev.bind hc ?_
    have := mail_l2 nx node l c l.length 0 (by omega)
    simpa using this
  | succ d ih =>
    intro t ht
    have h1 := iNetFor_ev nx l (t : Int)
    unfold netFor at h1
    rw [if_pos c] at h1
    have hcnt := forL_count (t : Int) l 0
    have hfl := forL_len (t : Int) l 0
    have hle := List.length_filter_le (fun f : FS => decide (f.f2 < (t : Int))) l
    have ih' := ih (t + 1) (by omega)
    rw [show ((t + 1 : Nat) : Int) = (t : Int) + 1 by omega, ← hcnt] at ih'
    refine Ev.step (fun k => by simp only [laws_FnMailFor.l0]; rfl) ?_
    refine ev_if (by omega) (Ev.bind h1 ?_)
    have hw : wrap64 (((l.filter (fun f => decide (f.f2 < (t : Int)))).length : Int) + ((forL (t : Int) l 0).length : Int)) = (((forL (t : Int) l 0).length + (l.filter (fun f => decide (f.f2 < (t : Int)))).length : Nat) : Int) := by
      rw [w64 (by omega) (by omega)]
      omega
    rw [hw]
    refine mail_l1 nx node _ (t : Int) l hl (forL (t : Int) l 0) (fun x hx => ?_) (by omega) true (by rw [w64 (x := (t : Int) + 1) (by omega) (by omega)]; exact ih') (forL (t : Int) l 0).length 0 (by omega)
    obtain ⟨j, hj, hjl, hjt⟩ := forL_mem (t : Int) l 0 x hx
    exact ⟨j, by omega, hjl, hjt⟩

theorem FnMailFor (l0 : List Int) (hu : ∀ x ∈ l0, (Lit.int .u8 x).wf = true) (_hm : l0.length ≤ 9223372036854775807) : ∃ k, laws_FnMailFor.f k l0 = some true := by
  apply Ev.rounds
  unfold laws_FnMailFor.f laws_big.f
  simp only [Option.bind_some, decide_eq_true_eq]
  by_cases c : (l0.length : Int) > 1048576
  · exact ev_if c (Ev.now true)
  · refine ev_ifn c ?_
    obtain ⟨r, hr⟩ := DrawNetCut_ev l0 (by omega)
    obtain ⟨nx, l, node⟩ := r
    refine Ev.bind hr ?_
    refine Ev.bind (sNetOk_ev nx l) ?_
    by_cases c2 : netOk nx l = true
    · refine ev_if c2 ?_
      have hf := netL_fOk (netOk_parts c2).2.2
      have h0 : l.filter (fun f => decide (f.f2 < ((0 : Nat) : Int))) = [] := by
        refine List.filter_eq_nil_iff.2 (fun f hm => ?_)
        have := hf f hm
        unfold fOk at this
        have := of_decide_eq_true this
        simp
        omega
      have := mail_l0 nx node l c2 8 0 (by omega)
      rw [h0] at this
      simpa using this
    · refine ev_ifn c2 ?_
      refine Ev.bind (iNetOk_ev nx l) ?_
      refine ev_ifn c2 ?_
      refine Ev.bind (iNetFor_ev nx l node) ?_
      unfold netFor
      rw [if_neg c2]
      exact Ev.now _

end Go.Proofs.Ytlbdhjkihndehaa.Pure
