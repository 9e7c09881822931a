/- The plain half of FnExactNetFor: what the printed functions compute, over numbers and lists alone. No condition. -/
import Derived.Test.YtlbdhjkihndehaaXFnExactNetForx
import Derived.OpenShut
namespace Go.Proofs.Ytlbdhjkihndehaa.Pure
open Go.RowKit Go.Proofs.Ytlbdhjkihndehaa.XFnExactNetFor Go.Proofs.YtlbdhjkihndehaaW.PrintWords Go.Proofs.YtlbdhjkihndehaaW.PrintLast Go.Proofs.YtlbdhjkihndehaaW.PrintMore
set_option linter.unusedVariables false
set_option linter.unusedSimpArgs false
theorem wf64 {x : Int} (h : (Lit.int .i64 x).wf = true) : -9223372036854775808 ≤ x ∧ x ≤ 9223372036854775807 := by
  simp [Lit.wf, IntKind.min, IntKind.max, IntKind.signed, IntKind.bits] at h
  omega
theorem w64 {x : Int} (h1 : -9223372036854775808 ≤ x) (h2 : x ≤ 9223372036854775807) : wrap64 x = x := by
  unfold wrap64
  omega
theorem in_eq (a b c : Int) : impl_in.f a b c = some (decide (b ≤ a ∧ a ≤ c)) := by
  unfold impl_in.f
  by_cases h : b ≤ a <;> simp [h]
theorem l1In_eq (a b c : Int) : spec_l1In.f a b c = some (decide (b ≤ a ∧ a ≤ c)) := by
  unfold spec_l1In.f
  by_cases h : b ≤ a <;> simp [h]
theorem isTime_eq (a : Int) : impl_isTime.f a = some (decide (0 ≤ a ∧ a ≤ 1000000000000)) := by
  unfold impl_isTime.f
  rw [in_eq]
  rfl
theorem l2Time_eq (a : Int) : spec_l2Time.f a = some (decide (0 ≤ a ∧ a ≤ 1000000000000)) := by
  unfold spec_l2Time.f
  rw [l1In_eq]
  rfl
/-- All of a list are bytes. -/
def U8s (l : List Int) : Prop := ∀ x ∈ l, (Lit.int .u8 x).wf = true
theorem u8s_rd {l : List Int} (h : U8s l) (i : Int) : 0 ≤ rd l i ∧ rd l i ≤ 255 := by
  unfold rd
  rw [List.getD_eq_getElem?_getD]
  rcases Nat.lt_or_ge i.toNat l.length with hi | hi
  · rw [List.getElem?_eq_getElem hi]
    exact Go.bounds_u8 (h _ (List.getElem_mem hi))
  · rw [List.getElem?_eq_none hi]
    decide
theorem rd_nat (l : List Int) (i : Nat) (hi : i < l.length) : rd l (i : Int) = l[i] := by
  unfold rd
  rw [List.getD_eq_getElem?_getD]
  simp [List.getElem?_eq_getElem hi]
theorem ev_if {α : Type} {c : Prop} [Decidable c] {f g : Nat → Option α} {r : α} (hc : c) (h : Ev f r) : Ev (fun k => if c then f k else g k) r := by
  simp only [hc, if_true]
  exact h
theorem ev_ifn {α : Type} {c : Prop} [Decidable c] {f g : Nat → Option α} {r : α} (hc : ¬ c) (h : Ev g r) : Ev (fun k => if c then f k else g k) r := by
  simp only [hc, if_false]
  exact h
theorem ev2 {α : Type} {g : Nat → Option α} {r : α} (h : ∀ k, g (k + 2) = some r) : Ev g r := ⟨2, fun k hk => by obtain ⟨m, rfl⟩ : ∃ m, k = m + 2 := ⟨k - 2, by omega⟩; exact h m⟩
theorem markText_l0 (n : Nat) (hn : n ≤ 19) : ∀ (x : Int) (s : ByteArray), 0 ≤ x → x < 10 ^ n → x ≤ 9223372036854775807 → s.size + n ≤ 100 → ∃ r, Ev (fun k => laws_markText.l0 k x s) r := by
  induction n with
  | zero =>
    intro x s h0 h1 h2 hs
    have : x = 0 := by
      simp at h1
      omega
    refine ⟨(⟨#[109]⟩ : ByteArray) ++ s, Ev.step (fun k => by simp only [laws_markText.l0]; rfl) ?_⟩
    simp only [show ¬ (x > 0) by omega, if_false, show 1 + s.size ≤ 9223372036854775807 by omega, if_true]
    exact Ev.now _
  | succ n ih =>
    intro x s h0 h1 h2 hs
    by_cases c : x > 0
    · have hd : Int.tdiv x 10 = x / 10 := Int.tdiv_eq_ediv_of_nonneg h0
      have hx : x / 10 < 10 ^ n := by
        rw [Int.pow_succ] at h1
        omega
      have hsz : (strOfNums [(wrap64 (48 + (Int.tmod x 10))) % 256]).size = 1 := rfl
      obtain ⟨r, hr⟩ := ih (by omega) (x / 10) (strOfNums [(wrap64 (48 + (Int.tmod x 10))) % 256] ++ s) (by omega) hx (by omega) (by rw [ByteArray.size_append, hsz]; omega)
      refine ⟨r, Ev.step (fun k => by simp only [laws_markText.l0]; rfl) ?_⟩
      simp only [c, if_true, Option.bind_some, hsz, show 1 + s.size ≤ 9223372036854775807 by omega]
      rw [hd, w64 (x := x / 10) (by omega) (by omega)]
      exact hr
    · refine ⟨(⟨#[109]⟩ : ByteArray) ++ s, Ev.step (fun k => by simp only [laws_markText.l0]; rfl) ?_⟩
      simp only [c, if_false, show 1 + s.size ≤ 9223372036854775807 by omega, if_true]
      exact Ev.now _
theorem markText_ev (x : Int) (h2 : x ≤ 9223372036854775807) : ∃ r, Ev (fun k => laws_markText.f k x) r := by
  unfold laws_markText.f
  by_cases c : x ≤ 0
  · simp only [c, if_true]
    exact ⟨_, Ev.now _⟩
  · simp only [c, if_false]
    exact markText_l0 19 (by omega) x _ (by omega) (by omega) h2 (by decide)
abbrev FS := S41
theorem rdF_nat (l : List FS) (i : Nat) (hi : i < l.length) : rd_T41 l (i : Int) = l[i] := by
  unfold rd_T41
  rw [List.getD_eq_getElem?_getD]
  simp [List.getElem?_eq_getElem hi]
def fOk (f : FS) : Bool := decide (0 ≤ f.f1 ∧ f.f1 ≤ 7 ∧ 0 ≤ f.f2 ∧ f.f2 ≤ 7 ∧ f.f3.size ≤ 64 ∧ 0 ≤ f.f4 ∧ f.f4 ≤ 1000000000000)
/-- The flights of a net, behind those whose numbers were seen. -/
def netL (nx : Int) : List FS → List Int → Bool
  | [], _ => true
  | f :: l, sn => if fOk f = true then (if 0 ≤ f.f0 ∧ f.f0 ≤ nx - 1 then (if f.f0 ∈ sn then false else netL nx l (sn ++ [f.f0])) else false) else false
def netOk (nx : Int) (l : List FS) : Bool := if 0 ≤ nx ∧ nx ≤ 1000000 then (if (l.length : Int) > 40 then false else netL nx l []) else false
theorem netOk_len {nx : Int} {l : List FS} (h : netOk nx l = true) : l.length ≤ 40 := by
  unfold netOk at h
  split at h
  · split at h
    · exact absurd h (by decide)
    · omega
  · exact absurd h (by decide)
theorem isNodeN_eq (a : Int) : impl_isNode.f a = some (decide (0 ≤ a ∧ a ≤ 7)) := by
  unfold impl_isNode.f
  rw [in_eq]
  rfl
theorem iFlightOk_eq (f : FS) : impl_flightOk.f f.f0 f.f1 f.f2 f.f3 f.f4 = some (fOk f) := by
  unfold impl_flightOk.f fOk
  simp only [isNodeN_eq, isTime_eq, Option.bind_some, decide_eq_true_eq]
  by_cases c1 : 0 ≤ f.f1 ∧ f.f1 ≤ 7
  · rw [if_pos c1]
    by_cases c2 : 0 ≤ f.f2 ∧ f.f2 ≤ 7
    · rw [if_pos c2]
      by_cases c3 : (f.f3.size : Int) ≤ 64
      · rw [if_pos c3]
        simp only [Option.some.injEq, decide_eq_decide]
        omega
      · rw [if_neg c3]
        simp only [Option.some.injEq]
        exact (decide_eq_false (by omega)).symm
    · rw [if_neg c2]
      simp only [Option.some.injEq]
      exact (decide_eq_false (by omega)).symm
  · rw [if_neg c1]
    simp only [Option.some.injEq]
    exact (decide_eq_false (by omega)).symm
theorem l4NodeN_eq (a : Int) : spec_l4Node.f a = some (decide (0 ≤ a ∧ a ≤ 7)) := by
  unfold spec_l4Node.f
  rw [l1In_eq]
  rfl
theorem sFlightOk_eq (f : FS) : spec_l5Flight.f f.f0 f.f1 f.f2 f.f3 f.f4 = some (fOk f) := by
  unfold spec_l5Flight.f fOk
  simp only [l4NodeN_eq, l2Time_eq, Option.bind_some, decide_eq_true_eq]
  by_cases c1 : 0 ≤ f.f1 ∧ f.f1 ≤ 7
  · rw [if_pos c1]
    by_cases c2 : 0 ≤ f.f2 ∧ f.f2 ≤ 7
    · rw [if_pos c2]
      by_cases c3 : (f.f3.size : Int) ≤ 64
      · rw [if_pos c3]
        simp only [Option.some.injEq, decide_eq_decide]
        omega
      · rw [if_neg c3]
        simp only [Option.some.injEq]
        exact (decide_eq_false (by omega)).symm
    · rw [if_neg c2]
      simp only [Option.some.injEq]
      exact (decide_eq_false (by omega)).symm
  · rw [if_neg c1]
    simp only [Option.some.injEq]
    exact (decide_eq_false (by omega)).symm
theorem iNetOk_l0 (nx : Int) (h0 : 0 ≤ nx ∧ nx ≤ 1000000) (l : List FS) (hl : l.length ≤ 40) (d : Nat) : ∀ (i : Nat) (sn : List Int), i + d = l.length → sn.length ≤ i → Ev (fun k => impl_NetOk.l0 k l (l.length : Int) (i : Int) nx l sn) (netL nx (l.drop i) sn) := by
  induction d with
  | zero =>
    intro i sn h hs
    refine Ev.step (fun k => by simp only [impl_NetOk.l0]; rfl) ?_
    simp only [show ¬ ((i : Int) < (l.length : Int)) by omega, if_false]
    rw [List.drop_eq_nil_of_le (by omega), netL]
    exact Ev.now _
  | succ d ih =>
    intro i sn h hs
    refine Ev.step (fun k => by simp only [impl_NetOk.l0]; rfl) ?_
    simp only [show (i : Int) < (l.length : Int) by omega, show (0 : Int) ≤ (i : Int) by omega, if_true]
    rw [rdF_nat l i (by omega), List.drop_eq_getElem_cons (show i < l.length by omega), netL, w64 (x := nx - 1) (by omega) (by omega), w64 (x := (i : Int) + 1) (by omega) (by omega)]
    generalize l[i]'(by omega) = f
    simp only [iFlightOk_eq, in_eq, Option.bind_some, decide_eq_true_eq]
    by_cases c1 : fOk f = true
    · rw [if_pos c1]
      refine ev_if c1 ?_
      by_cases c2 : 0 ≤ f.f0 ∧ f.f0 ≤ nx - 1
      · rw [if_pos c2]
        refine ev_if c2 ?_
        by_cases c3 : f.f0 ∈ sn
        · rw [if_pos c3]
          exact ev_if c3 (Ev.now _)
        · rw [if_neg c3]
          refine ev_ifn c3 (ev_if (by omega) ?_)
          exact ih (i + 1) _ (by omega) (by simp; omega)
      · rw [if_neg c2]
        exact ev_ifn c2 (Ev.now _)
    · rw [if_neg c1]
      exact ev_ifn c1 (Ev.now _)
theorem iNetOk_ev (nx : Int) (l : List FS) : Ev (fun k => impl_NetOk.f k nx l) (netOk nx l) := by
  unfold impl_NetOk.f netOk
  simp only [in_eq, Option.bind_some, decide_eq_true_eq]
  by_cases c : 0 ≤ nx ∧ nx ≤ 1000000
  · rw [if_pos c]
    refine ev_if c (Ev.step (fun k => by simp only [impl_NetOk.j0]; rfl) ?_)
    simp only [decide_eq_true_eq]
    by_cases c2 : (l.length : Int) > 40
    · rw [if_pos c2]
      exact ev_if c2 (Ev.now _)
    · rw [if_neg c2]
      refine ev_ifn c2 ?_
      simpa using iNetOk_l0 nx c l (by omega) l.length 0 [] (by omega) (by simp)
  · rw [if_neg c]
    refine ev_ifn c (Ev.step (fun k => by simp only [impl_NetOk.j0]; rfl) ?_)
    exact ev_if trivial (Ev.now _)
theorem mem_take_ids (l : List FS) (i : Nat) (hi : i < l.length) (x : Int) : (x ∈ (l.take (i + 1)).map (fun f => f.f0)) ↔ (x ∈ (l.take i).map (fun f => f.f0)) ∨ x = (l[i]).f0 := by
  rw [List.take_succ_eq_append_getElem hi, List.map_append, List.mem_append]
  simp
theorem ids_snoc (l : List FS) (i : Nat) (hi : i < l.length) : (l.take i).map (fun f => f.f0) ++ [(l[i]).f0] = (l.take (i + 1)).map (fun f => f.f0) := by
  rw [List.take_succ_eq_append_getElem hi, List.map_append]
  rfl
theorem sNetOk_l1 (nx : Int) (l : List FS) (hl : l.length ≤ 40) (i : Nat) (hi : i < l.length) (R : Bool) (hR : Ev (fun k => spec_NetOk.l0 k ((i + 1 : Nat) : Int) nx l) R) (d : Nat) : ∀ j : Nat, j + d = i → (l[i]).f0 ∉ (l.take j).map (fun f => f.f0) →
    Ev (fun k => spec_NetOk.l1 k (i : Int) (j : Int) nx l) (if (l[i]).f0 ∈ (l.take i).map (fun f => f.f0) then false else R) := by
  induction d with
  | zero =>
    intro j h hn
    have hji : j = i := by omega
    subst hji
    refine Ev.step (fun k => by simp only [spec_NetOk.l1]; rfl) ?_
    simp only [show ¬ ((j : Int) < (j : Int)) by omega, if_false]
    rw [if_neg hn, w64 (by omega) (by omega)]
    exact hR
  | succ d ih =>
    intro j h hn
    refine Ev.step (fun k => by simp only [spec_NetOk.l1]; rfl) ?_
    simp only [show (j : Int) < (i : Int) by omega, show (0 : Int) ≤ (j : Int) by omega, show (j : Int) < (l.length : Int) by omega, show (0 : Int) ≤ (i : Int) by omega, show (i : Int) < (l.length : Int) by omega, if_true]
    rw [rdF_nat l j (by omega), rdF_nat l i (by omega), w64 (by omega) (by omega)]
    by_cases c : (l[j]'(by omega)).f0 = (l[i]).f0
    · refine ev_if c ?_
      have hm : (l[i]).f0 ∈ (l.take i).map (fun f => f.f0) := by
        refine List.mem_map.2 ⟨l[j]'(by omega), ?_, c⟩
        exact List.mem_take_iff_getElem.2 ⟨j, by omega, rfl⟩
      rw [if_pos hm]
      exact Ev.now _
    · refine ev_ifn c ?_
      refine ih (j + 1) (by omega) ?_
      rw [mem_take_ids l j (by omega)]
      rintro (h1 | h1)
      · exact hn h1
      · exact c h1.symm
theorem sNetOk_l0 (nx : Int) (h0 : 0 ≤ nx ∧ nx ≤ 1000000) (l : List FS) (hl : l.length ≤ 40) (d : Nat) : ∀ (i : Nat), i + d = l.length → Ev (fun k => spec_NetOk.l0 k (i : Int) nx l) (netL nx (l.drop i) ((l.take i).map (fun f => f.f0))) := by
  induction d with
  | zero =>
    intro i h
    refine Ev.step (fun k => by simp only [spec_NetOk.l0]; rfl) ?_
    simp only [show ¬ ((i : Int) < (l.length : Int)) by omega, if_false]
    rw [List.drop_eq_nil_of_le (by omega), netL]
    exact Ev.now _
  | succ d ih =>
    intro i h
    have hi : i < l.length := by omega
    have h1 := sNetOk_l1 nx l hl i hi _ (ih (i + 1) (by omega)) i 0 (by omega) (by simp)
    have hs := ids_snoc l i hi
    have hr := rdF_nat l i hi
    refine Ev.step (fun k => by simp only [spec_NetOk.l0]; rfl) ?_
    simp only [show (i : Int) < (l.length : Int) by omega, show (0 : Int) ≤ (i : Int) by omega, if_true]
    rw [List.drop_eq_getElem_cons hi, netL, w64 (x := nx - 1) (by omega) (by omega), hs]
    rw [hr]
    generalize l[i]'(by omega) = f at *
    simp only [sFlightOk_eq, l1In_eq, Option.bind_some]
    by_cases c1 : fOk f = true
    · rw [if_pos c1]
      refine ev_if c1 ?_
      by_cases c2 : 0 ≤ f.f0 ∧ f.f0 ≤ nx - 1
      · rw [if_pos c2]
        refine Ev.step (fun k => by simp only [spec_NetOk.j2]; rfl) ?_
        simp only [c2, and_self, decide_true, Bool.not_true, Bool.false_eq_true, if_false]
        exact h1
      · rw [if_neg c2]
        refine Ev.step (fun k => by simp only [spec_NetOk.j2]; rfl) ?_
        simp only [c2, decide_false, Bool.not_false, if_true]
        exact Ev.now _
    · rw [if_neg c1]
      refine ev_ifn c1 (Ev.step (fun k => by simp only [spec_NetOk.j2]; rfl) ?_)
      exact ev_if trivial (Ev.now _)
theorem sNetOk_ev (nx : Int) (l : List FS) : Ev (fun k => spec_NetOk.f k nx l) (netOk nx l) := by
  unfold spec_NetOk.f netOk
  simp only [l1In_eq, Option.bind_some, decide_eq_true_eq]
  by_cases c : 0 ≤ nx ∧ nx ≤ 1000000
  · rw [if_pos c]
    refine ev_if c (Ev.step (fun k => by simp only [spec_NetOk.j0]; rfl) ?_)
    simp only [decide_eq_true_eq]
    by_cases c2 : (l.length : Int) > 40
    · rw [if_pos c2]
      exact ev_if c2 (Ev.now _)
    · rw [if_neg c2]
      refine ev_ifn c2 ?_
      simpa using sNetOk_l0 nx c l (by omega) l.length 0 (by omega)
  · rw [if_neg c]
    refine ev_ifn c (Ev.step (fun k => by simp only [spec_NetOk.j0]; rfl) ?_)
    exact ev_if trivial (Ev.now _)
theorem rdLF_nat (l : List S62) (i : Nat) (hi : i < l.length) : rd_T62 l (i : Int) = l[i] := by
  unfold rd_T62
  rw [List.getD_eq_getElem?_getD]
  simp [List.getElem?_eq_getElem hi]
theorem toFlight_eq (a b c : Int) (s : ByteArray) (d : Int) : laws_toFlight.f a b c s d = some (a, b, c, s, d) := by
  unfold laws_toFlight.f
  rfl
def cvF (x : S62) : FS := ⟨x.f0, x.f1, x.f2, x.f3, x.f4⟩
theorem cvF_set (l : List S62) (i : Nat) (h : i < l.length) (z : FS) : ((l.take i).map cvF ++ List.replicate (l.length - i) z).set i (cvF l[i]) = (l.take (i + 1)).map cvF ++ List.replicate (l.length - (i + 1)) z := by
  have e : l.length - i = (l.length - (i + 1)) + 1 := by omega
  have e2 : ((l.take i).map cvF).length = i := by rw [List.length_map, List.length_take]; omega
  rw [e, List.replicate_succ, List.set_append_right _ _ (by omega), e2, Nat.sub_self, List.set_cons_zero, List.take_succ_eq_append_getElem h, List.map_append, List.append_assoc]
  rfl
theorem toFlightS_l0 (l : List S62) (hl : l.length ≤ 9223372036854775806) (z : FS) (d : Nat) : ∀ i : Nat, i + d = l.length → Ev (fun k => laws_toFlightS.l0 k l ((l.take i).map cvF ++ List.replicate (l.length - i) z) i) (l.map cvF) := by
  induction d with
  | zero =>
    intro i hi
    refine Ev.step (fun k => by simp only [laws_toFlightS.l0]; rfl) ?_
    simp only [show ¬ ((i : Int) < (l.length : Int)) by omega, if_false]
    rw [List.take_of_length_le (by omega), show l.length - i = 0 by omega]
    simpa using Ev.now (l.map cvF)
  | succ d ih =>
    intro i hi
    refine Ev.step (fun k => by simp only [laws_toFlightS.l0]; rfl) ?_
    have hlen : ((l.take i).map cvF ++ List.replicate (l.length - i) z).length = l.length := by
      rw [List.length_append, List.length_map, List.length_take, List.length_replicate]
      omega
    rw [hlen]
    simp only [show (i : Int) < (l.length : Int) by omega, show (0 : Int) ≤ (i : Int) by omega, if_true, Int.toNat_natCast, toFlight_eq, Option.bind_some]
    rw [rdLF_nat l i (by omega), w64 (by omega) (by omega)]
    have := ih (i + 1) (by omega)
    rw [← cvF_set l i (by omega) z] at this
    exact this
theorem toFlightS_ev (l : List S62) (hl : l.length ≤ 1048576) : Ev (fun k => laws_toFlightS.f k l) (l.map cvF) := by
  unfold laws_toFlightS.f
  simp only [show (0 : Int) ≤ (l.length : Int) by omega, Int.toNat_natCast, show l.length ≤ 5864062014805 by omega, if_true]
  have := toFlightS_l0 l (by omega) z41 l.length 0 (by omega)
  simpa using this
theorem toNet_ev (nx : Int) (l : List S62) (hl : l.length ≤ 1048576) : Ev (fun k => laws_toNet.f k nx l) (nx, l.map cvF) := by
  unfold laws_toNet.f
  exact Ev.bind (toFlightS_ev l hl) (Ev.now _)
theorem eqFlight_self (a b c : Int) (s : ByteArray) (d : Int) : laws_eqFlight.f a b c s d a b c s d = some true := by
  unfold laws_eqFlight.f
  simp
theorem eqFlightS_l0 (l : List FS) (hl : l.length ≤ 9223372036854775806) (d : Nat) : ∀ i : Nat, i + d = l.length → Ev (fun k => laws_eqFlightS.l0 k l l i) true := by
  induction d with
  | zero =>
    intro i hi
    refine Ev.step (fun k => by simp only [laws_eqFlightS.l0]; rfl) ?_
    simp only [show ¬ ((i : Int) < (l.length : Int)) by omega, if_false]
    exact Ev.now true
  | succ d ih =>
    intro i hi
    refine Ev.step (fun k => by simp only [laws_eqFlightS.l0]; rfl) ?_
    simp only [show (i : Int) < (l.length : Int) by omega, show (0 : Int) ≤ (i : Int) by omega, if_true, eqFlight_self, Option.bind_some]
    rw [w64 (by omega) (by omega)]
    exact ih (i + 1) (by omega)
theorem eqFlightS_ev (l : List FS) (hl : l.length ≤ 9223372036854775806) : Ev (fun k => laws_eqFlightS.f k l l) true := by
  unfold laws_eqFlightS.f
  simp only [if_true]
  exact eqFlightS_l0 l hl l.length 0 (by omega)
theorem eqNet_ev (nx : Int) (l : List FS) (hl : l.length ≤ 9223372036854775806) : Ev (fun k => laws_eqNet.f k nx l nx l) true := by
  unfold laws_eqNet.f
  simp only [if_true]
  exact Ev.bind (eqFlightS_ev l hl) (by simp only [if_true]; exact Ev.now _)
theorem szFlight_ok (a b c : Int) (s : ByteArray) (d n : Int) : ∃ t, laws_szFlight.f a b c s d n = some t := by
  unfold laws_szFlight.f
  split <;> exact ⟨_, rfl⟩
theorem szFlightS_l0 (l : List S62) (hl : l.length ≤ 9223372036854775806) (d : Nat) : ∀ (i : Nat) (x : Int), i + d = l.length → ∃ t, Ev (fun k => laws_szFlightS.l0 k l x (i : Int)) t := by
  induction d with
  | zero =>
    intro i x h
    refine ⟨x, Ev.step (fun k => by simp only [laws_szFlightS.l0]; rfl) ?_⟩
    simp only [show ¬ ((i : Int) < (l.length : Int)) by omega, if_false]
    exact Ev.now _
  | succ d ih =>
    intro i x h
    obtain ⟨m, hm⟩ : ∃ m, rd_T62 l (i : Int) = m := ⟨_, rfl⟩
    obtain ⟨t, ht⟩ := szFlight_ok m.f0 m.f1 m.f2 m.f3 m.f4 x
    by_cases c : t < 0
    · refine ⟨-1, Ev.step (fun k => by simp only [laws_szFlightS.l0]; rfl) ?_⟩
      simp only [show (i : Int) < (l.length : Int) by omega, show (0 : Int) ≤ (i : Int) by omega, if_true, hm, ht, Option.bind_some, c]
      exact Ev.now _
    · obtain ⟨r, hr⟩ := ih (i + 1) t (by omega)
      refine ⟨r, Ev.step (fun k => by simp only [laws_szFlightS.l0]; rfl) ?_⟩
      simp only [show (i : Int) < (l.length : Int) by omega, show (0 : Int) ≤ (i : Int) by omega, if_true, hm, ht, Option.bind_some, c, if_false]
      rw [w64 (by omega) (by omega)]
      exact hr
theorem szNet_ev (nx : Int) (l : List S62) (hm : l.length ≤ 9223372036854775807) : ∃ t, Ev (fun k => laws_szNet.f k nx l 1048576) t ∧ (¬ t < 0 → l.length ≤ 1048576) := by
  unfold laws_szNet.f laws_szFlightS.f
  rw [w64 (x := 1048576 - (l.length : Int)) (by omega) (by omega)]
  by_cases c : 1048576 - (l.length : Int) < 0
  · simp only [c, if_true, Option.bind_some, show (-1 : Int) < 0 by omega]
    exact ⟨-1, Ev.now _, by omega⟩
  · simp only [c, if_false]
    obtain ⟨t, ht⟩ := szFlightS_l0 l (by omega) l.length 0 (1048576 - (l.length : Int)) (by omega)
    by_cases c2 : t < 0
    · exact ⟨-1, Ev.bind ht (ev_if c2 (Ev.now _)), by omega⟩
    · exact ⟨t, Ev.bind ht (ev_ifn c2 (Ev.now _)), fun _ => by omega⟩
def mkI (m n : Nat) : List Int := (List.range n).map fun j => ((m + j : Nat) : Int)
theorem mkI_len (m n : Nat) : (mkI m n).length = n := by simp [mkI]
theorem mkI_succ (m n : Nat) : mkI m (n + 1) = mkI m n ++ [((m + n : Nat) : Int)] := by simp [mkI, List.range_succ]
theorem mkI_get (m n i : Nat) (h : i < n) : rd (mkI m n) (i : Int) = ((m + i : Nat) : Int) := by
  rw [rd_nat _ i (by rw [mkI_len]; exact h)]
  simp [mkI]
theorem markI_l0 (l : List Int) (m : Nat) (hl : m + l.length ≤ 9223372036854775806) (d : Nat) : ∀ i : Nat, i + d = l.length →
    Ev (fun k => laws_markIntS.l0 k (mkI m i ++ l.drop i) ((m + i : Nat) : Int) (i : Int)) (((m + l.length : Nat) : Int), mkI m l.length) := by
  induction d with
  | zero =>
    intro i hi
    refine Ev.step (fun k => by simp only [laws_markIntS.l0]; rfl) ?_
    have hlen : (mkI m i ++ l.drop i).length = l.length := by rw [List.length_append, mkI_len, List.length_drop]; omega
    rw [hlen]
    simp only [show ¬ ((i : Int) < (l.length : Int)) by omega, if_false]
    have : i = l.length := by omega
    subst this
    rw [List.drop_length, List.append_nil]
    exact Ev.now _
  | succ d ih =>
    intro i hi
    refine Ev.step (fun k => by simp only [laws_markIntS.l0]; rfl) ?_
    have hlen : (mkI m i ++ l.drop i).length = l.length := by rw [List.length_append, mkI_len, List.length_drop]; omega
    rw [hlen]
    simp only [show (i : Int) < (l.length : Int) by omega, show (0 : Int) ≤ (i : Int) by omega, if_true, Int.toNat_natCast]
    have e : (mkI m i ++ l.drop i).set i (((m + i : Nat) : Int)) = mkI m (i + 1) ++ l.drop (i + 1) := by
      rw [List.set_append_right _ _ (by rw [mkI_len]; exact Nat.le_refl i), mkI_len, Nat.sub_self, List.drop_eq_getElem_cons (by omega), List.set_cons_zero, mkI_succ, List.append_assoc]
      rfl
    rw [e, w64 (by omega) (by omega), w64 (by omega) (by omega)]
    exact ih (i + 1) (by omega)
theorem markI_ev (l : List Int) (m : Nat) (hl : m + l.length ≤ 9223372036854775806) : Ev (fun k => laws_markIntS.f k l (m : Int)) (((m + l.length : Nat) : Int), mkI m l.length) := by
  unfold laws_markIntS.f
  have := markI_l0 l m hl l.length 0 (by omega)
  simpa [mkI] using this
theorem heldI_l0 (m n : Nat) (hl : m + n ≤ 9223372036854775806) (d : Nat) : ∀ i : Nat, i + d = n → Ev (fun k => laws_heldIntS.l0 k (mkI m n) ((m + i : Nat) : Int) (i : Int)) ((m + n : Nat) : Int) := by
  induction d with
  | zero =>
    intro i hi
    refine Ev.step (fun k => by simp only [laws_heldIntS.l0]; rfl) ?_
    rw [mkI_len]
    simp only [show ¬ ((i : Int) < (n : Int)) by omega, if_false]
    have : i = n := by omega
    subst this
    exact Ev.now _
  | succ d ih =>
    intro i hi
    refine Ev.step (fun k => by simp only [laws_heldIntS.l0]; rfl) ?_
    rw [mkI_len, mkI_get m n i (by omega)]
    simp only [show (i : Int) < (n : Int) by omega, show (0 : Int) ≤ (i : Int) by omega, if_true]
    rw [w64 (by omega) (by omega), w64 (by omega) (by omega)]
    exact ih (i + 1) (by omega)
theorem heldI_ev (m n : Nat) (hl : m + n ≤ 9223372036854775806) : Ev (fun k => laws_heldIntS.f k (mkI m n) (m : Int)) ((m + n : Nat) : Int) := by
  unfold laws_heldIntS.f
  have := heldI_l0 m n hl n 0 (by omega)
  simpa using this
theorem eqIntS_l0 (l : List Int) (hl : l.length ≤ 9223372036854775806) (d : Nat) : ∀ i : Nat, i + d = l.length → Ev (fun k => laws_eqIntS.l0 k l l i) true := by
  induction d with
  | zero =>
    intro i hi
    refine Ev.step (fun k => by simp only [laws_eqIntS.l0]; rfl) ?_
    simp only [show ¬ ((i : Int) < (l.length : Int)) by omega, if_false]
    exact Ev.now true
  | succ d ih =>
    intro i hi
    refine Ev.step (fun k => by simp only [laws_eqIntS.l0]; rfl) ?_
    simp only [show (i : Int) < (l.length : Int) by omega, show (0 : Int) ≤ (i : Int) by omega, if_true]
    rw [w64 (by omega) (by omega)]
    exact ih (i + 1) (by omega)
theorem eqIntS_ev (l : List Int) (hl : l.length ≤ 9223372036854775806) : Ev (fun k => laws_eqIntS.f k l l) true := by
  unfold laws_eqIntS.f
  simp only [if_true]
  exact eqIntS_l0 l hl l.length 0 (by omega)
/-- A flight that was marked with m and what follows. -/
def IsMk (m : Int) (f : FS) : Prop := ∃ t, Ev (fun k => laws_markText.f k (m + 3)) t ∧ f = ⟨m, m + 1, m + 2, t, m + 4⟩
def MkF (m : Int) (l : List FS) : Prop := ∀ (i : Nat) (h : i < l.length), IsMk (m + 5 * i) l[i]
theorem rdF_set (l : List FS) (i : Nat) (hi : i < l.length) (v : FS) : rd_T41 (l.set i v) (i : Int) = v := by
  rw [rdF_nat _ i (by rw [List.length_set]; exact hi)]
  simp
theorem markFl_l0 (m : Int) (h0 : 0 ≤ m) (d : Nat) : ∀ (i : Nat) (l : List FS), i + d = l.length → m + 5 * (l.length : Int) ≤ 9000000000000000000 → (∀ (j : Nat) (h : j < l.length), j < i → IsMk (m + 5 * j) l[j]) →
    ∃ r, Ev (fun k => laws_markFlightS.l0 k l (m + 5 * (i : Int)) (i : Int)) (m + 5 * (l.length : Int), r) ∧ MkF m r ∧ r.length = l.length := by
  induction d with
  | zero =>
    intro i l hi hl hm
    refine ⟨l, Ev.step (fun k => by simp only [laws_markFlightS.l0]; rfl) ?_, fun j h => hm j h (by omega), rfl⟩
    simp only [show ¬ ((i : Int) < (l.length : Int)) by omega, if_false]
    have : i = l.length := by omega
    subst this
    exact Ev.now _
  | succ d ih =>
    intro i l hi hl hm
    have hil : i < l.length := by omega
    obtain ⟨x, hx⟩ : ∃ x, m + 5 * (i : Int) = x := ⟨_, rfl⟩
    have w1 : wrap64 (x + 1) = x + 1 := w64 (by omega) (by omega)
    have w2 : wrap64 (x + 1 + 1) = x + 2 := by rw [w64 (by omega) (by omega)]; omega
    have w3 : wrap64 (x + 2 + 1) = x + 3 := by rw [w64 (by omega) (by omega)]; omega
    have w4 : wrap64 (x + 3 + 1) = x + 4 := by rw [w64 (by omega) (by omega)]; omega
    have w5 : wrap64 (x + 4 + 1) = x + 5 := by rw [w64 (by omega) (by omega)]; omega
    obtain ⟨t, ht⟩ := markText_ev (x + 3) (by omega)
    obtain ⟨r, hr, hr2, hr3⟩ := ih (i + 1) (l.set i ⟨x, x + 1, x + 2, t, x + 4⟩) (by rw [List.length_set]; omega) (by rw [List.length_set]; exact hl) (by
      intro j h hj
      rw [List.length_set] at h
      by_cases c : j = i
      · subst c
        rw [List.getElem_set_self]
        rw [hx]
        exact ⟨t, ht, rfl⟩
      · rw [List.getElem_set_ne (by omega)]
        exact hm j h (by omega))
    refine ⟨r, Ev.step (fun k => by simp only [laws_markFlightS.l0]; rfl) ?_, hr2, by rw [hr3, List.length_set]⟩
    rw [List.length_set] at hr
    simp only [show (i : Int) < (l.length : Int) by omega, show (0 : Int) ≤ (i : Int) by omega, if_true, Int.toNat_natCast, hx, w1, w2, w3, w4, w5, Option.bind_some]
    refine Ev.bind ht ?_
    simp only [List.set_set, rdF_set l i hil, w64 (x := (i : Int) + 1) (by omega) (by omega)]
    rw [show m + 5 * ((i + 1 : Nat) : Int) = x + 5 by omega] at hr
    exact hr
theorem markFl_ev (l : List FS) (hl : l.length ≤ 1048576) : ∃ r, Ev (fun k => laws_markFlightS.f k l 1) (1 + 5 * (l.length : Int), r) ∧ MkF 1 r ∧ r.length = l.length := by
  unfold laws_markFlightS.f
  have := markFl_l0 1 (by omega) l.length 0 l (by omega) (by omega) (fun j _ h => by omega)
  simpa using this
theorem markNet_ev (nx : Int) (l : List FS) (hl : l.length ≤ 1048576) : ∃ r, Ev (fun k => laws_markNet.f k nx l 1) (1 + 5 * (l.length : Int), r) ∧ MkF 1 r ∧ r.length = l.length := by
  unfold laws_markNet.f
  obtain ⟨r, h, h2⟩ := markFl_ev l hl
  exact ⟨r, Ev.bind h (Ev.now _), h2⟩
def forL (t : Int) : List FS → Nat → List Int
  | [], _ => []
  | f :: r, i => if f.f2 = t then (i : Int) :: forL t r (i + 1) else forL t r (i + 1)
theorem forL_len (t : Int) (l : List FS) : ∀ i, (forL t l i).length ≤ l.length := by
  induction l with
  | nil => intro i; simp [forL]
  | cons f r ih =>
    intro i
    rw [forL]
    have := ih (i + 1)
    split <;> simp only [List.length_cons] <;> omega
def netFor (nx : Int) (l : List FS) (t : Int) : List Int := if netOk nx l = true then forL t l 0 else []
theorem iPlaces_l0 (t : Int) (l : List FS) (hl : l.length ≤ 1000000) (d : Nat) : ∀ (i : Nat) (acc : List Int), i + d = l.length → acc.length ≤ i → Ev (fun k => impl_places_37.l0 k acc l (l.length : Int) (i : Int) t) (acc ++ forL t (l.drop i) i) := by
  induction d with
  | zero =>
    intro i acc h ha
    refine Ev.step (fun k => by simp only [impl_places_37.l0]; rfl) ?_
    simp only [show ¬ ((i : Int) < (l.length : Int)) by omega, if_false]
    rw [List.drop_eq_nil_of_le (by omega), forL, List.append_nil]
    exact Ev.now _
  | succ d ih =>
    intro i acc h ha
    refine Ev.step (fun k => by simp only [impl_places_37.l0]; rfl) ?_
    simp only [show (i : Int) < (l.length : Int) by omega, show (0 : Int) ≤ (i : Int) by omega, if_true]
    rw [rdF_nat l i (by omega), List.drop_eq_getElem_cons (show i < l.length by omega), forL, w64 (x := (i : Int) + 1) (by omega) (by omega)]
    simp only [impl_NetFor_1.f, Option.bind_some, decide_eq_true_eq]
    by_cases c : (l[i]'(by omega)).f2 = t
    · rw [if_pos c]
      refine ev_if c (ev_if (by omega) ?_)
      have := ih (i + 1) (acc ++ [(i : Int)]) (by omega) (by rw [List.length_append, List.length_singleton]; omega)
      rw [List.append_assoc, List.singleton_append] at this
      exact this
    · rw [if_neg c]
      exact ev_ifn c (ih (i + 1) acc (by omega) (by omega))
theorem iNetFor_ev (nx : Int) (l : List FS) (t : Int) : Ev (fun k => impl_NetFor.f k nx l t) (netFor nx l t) := by
  unfold impl_NetFor.f netFor
  refine Ev.bind (iNetOk_ev nx l) ?_
  by_cases c : netOk nx l = true
  · have hl := netOk_len c
    rw [if_pos c]
    refine ev_if c ?_
    unfold impl_places_37.f
    have := iPlaces_l0 t l (by omega) l.length 0 [] (by omega) (by simp)
    refine Ev.bind (by simpa using this) (Ev.now _)
  · rw [if_neg c]
    exact ev_ifn c (Ev.now _)
theorem sNetFor_l0 (nx : Int) (t : Int) (l : List FS) (c : netOk nx l = true) (d : Nat) : ∀ (i : Nat) (acc : List Int), i + d = l.length → acc.length ≤ i → Ev (fun k => spec_NetFor.l0 k t acc (i : Int) nx l) (acc ++ forL t (l.drop i) i) := by
  have hl := netOk_len c
  induction d with
  | zero =>
    intro i acc h ha
    refine Ev.step (fun k => by simp only [spec_NetFor.l0]; rfl) ?_
    simp only [show ¬ ((i : Int) < (l.length : Int)) by omega, if_false]
    rw [List.drop_eq_nil_of_le (by omega), forL, List.append_nil]
    refine Ev.step (fun k => by simp only [spec_NetFor.j1]; rfl) ?_
    exact ev_ifn (by decide) (Ev.now _)
  | succ d ih =>
    intro i acc h ha
    refine Ev.step (fun k => by simp only [spec_NetFor.l0]; rfl) ?_
    simp only [show (i : Int) < (l.length : Int) by omega, if_true]
    refine Ev.bind (sNetOk_ev nx l) ?_
    refine Ev.step (fun k => by simp only [spec_NetFor.j1]; rfl) ?_
    refine ev_if c ?_
    simp only [show (i : Int) < (l.length : Int) by omega, show (0 : Int) ≤ (i : Int) by omega, if_true]
    rw [rdF_nat l i (by omega), List.drop_eq_getElem_cons (show i < l.length by omega), forL, w64 (x := (i : Int) + 1) (by omega) (by omega)]
    by_cases c : (l[i]'(by omega)).f2 = t
    · rw [if_pos c]
      refine ev_if c (ev_if (by omega) ?_)
      have := ih (i + 1) (acc ++ [(i : Int)]) (by omega) (by rw [List.length_append, List.length_singleton]; omega)
      rw [List.append_assoc, List.singleton_append] at this
      exact this
    · rw [if_neg c]
      exact ev_ifn c (ih (i + 1) acc (by omega) (by omega))
theorem sNetFor_ev (nx : Int) (l : List FS) (t : Int) : Ev (fun k => spec_NetFor.f k nx l t) (netFor nx l t) := by
  unfold spec_NetFor.f netFor
  by_cases c : netOk nx l = true
  · rw [if_pos c]
    have := sNetFor_l0 nx t l c l.length 0 [] (by omega) (by simp)
    simpa using this
  · rw [if_neg c]
    refine Ev.step (fun k => by simp only [spec_NetFor.l0]; rfl) ?_
    by_cases c2 : (0 : Int) < (l.length : Int)
    · refine ev_if c2 ?_
      refine Ev.bind (sNetOk_ev nx l) ?_
      refine Ev.step (fun k => by simp only [spec_NetFor.j1]; rfl) ?_
      exact ev_ifn c (Ev.now _)
    · refine ev_ifn c2 ?_
      refine Ev.step (fun k => by simp only [spec_NetFor.j1]; rfl) ?_
      exact ev_ifn (by decide) (Ev.now _)
theorem FnExactNetFor (a0_0 : Int) (l0_1 : List S62) (a1 : Int) (_h : (Lit.int .i64 a0_0).wf = true ∧ ∀ x ∈ l0_1, (Lit.int .i64 x.f0).wf = true ∧ (Lit.int .i64 x.f1).wf = true ∧ (Lit.int .i64 x.f2).wf = true ∧ x.f3.size ≤ maxLen ∧ (Lit.int .i64 x.f4).wf = true) (hm : l0_1.length ≤ 9223372036854775807) (_ha : (Lit.int .i64 a1).wf = true) : ∃ k, laws_FnExactNetFor.f k a0_0 l0_1 a1 = some true := by
  apply Ev.rounds
  unfold laws_FnExactNetFor.f
  obtain ⟨t, ht, hlen⟩ := szNet_ev a0_0 l0_1 hm
  refine Ev.bind ht ?_
  by_cases c : t < 0
  · exact ev_if c (Ev.now true)
  · have hl := hlen c
    refine ev_ifn c ?_
    refine Ev.bind (toNet_ev a0_0 l0_1 hl) ?_
    refine Ev.bind (sNetFor_ev _ _ _) ?_
    refine Ev.bind (toNet_ev a0_0 l0_1 hl) ?_
    refine Ev.bind (iNetFor_ev _ _ _) ?_
    have he := iNetFor_ev a0_0 (l0_1.map cvF) a1
    have hrl : (netFor a0_0 (l0_1.map cvF) a1).length ≤ 1048576 := by
      unfold netFor
      split
      · have := forL_len a1 (l0_1.map cvF) 0
        rw [List.length_map] at this
        omega
      · simp
    generalize netFor a0_0 (l0_1.map cvF) a1 = r at *
    refine Ev.bind (eqIntS_ev r (by omega)) ?_
    refine ev_if rfl ?_
    refine Ev.bind (toNet_ev a0_0 l0_1 hl) ?_
    refine Ev.bind (eqNet_ev _ _ (by rw [List.length_map]; omega)) ?_
    refine ev_if rfl ?_
    obtain ⟨q, hq, _, _⟩ := markNet_ev a0_0 (l0_1.map cvF) (by rw [List.length_map]; exact hl)
    refine Ev.bind hq ?_
    refine ev_ifn (by simp only; omega) ?_
    refine Ev.bind (eqIntS_ev r (by omega)) ?_
    refine Ev.step (fun k => by simp only [laws_FnExactNetFor.j0]; rfl) ?_
    refine ev_ifn (by decide) ?_
    refine Ev.bind (markI_ev r 1 (by omega)) ?_
    refine Ev.bind (heldI_ev 1 _ (by omega)) ?_
    refine ev_ifn (by omega) (ev_if rfl ?_)
    refine Ev.bind (toNet_ev a0_0 l0_1 hl) ?_
    refine Ev.bind he ?_
    refine Ev.bind (eqIntS_ev r (by omega)) ?_
    refine ev_if rfl ?_
    refine Ev.bind (heldI_ev 1 _ (by omega)) ?_
    exact ev_ifn (by omega) (ev_if rfl (Ev.now true))

end Go.Proofs.Ytlbdhjkihndehaa.Pure
