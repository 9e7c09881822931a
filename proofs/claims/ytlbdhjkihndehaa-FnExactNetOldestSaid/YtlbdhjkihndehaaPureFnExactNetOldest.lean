/- The plain half of FnExactNetOldest: what the printed functions compute, over numbers and lists alone. No condition. -/
import Derived.Test.YtlbdhjkihndehaaXFnExactNetOldestx
import Derived.OpenShut
namespace Go.Proofs.Ytlbdhjkihndehaa.Pure
open Go.RowKit Go.Proofs.Ytlbdhjkihndehaa.XFnExactNetOldest Go.Proofs.YtlbdhjkihndehaaW.PrintWords Go.Proofs.YtlbdhjkihndehaaW.PrintLast Go.Proofs.YtlbdhjkihndehaaW.PrintMore
set_option linter.unusedVariables false
set_option linter.unusedSimpArgs false
theorem wf64 {x : Int} (h : (Lit.int .i64 x).wf = true) : -9223372036854775808 ≤ x ∧ x ≤ 9223372036854775807 := by
  simp [Lit.wf, IntKind.min, IntKind.max, IntKind.signed, IntKind.bits] at h
  omega
theorem w64 {x : Int} (h1 : -9223372036854775808 ≤ x) (h2 : x ≤ 9223372036854775807) : wrap64 x = x := by
  unfold wrap64
  omega
theorem in_eq (a b c : Int) : impl_in.f a b c = some (decide (b ≤ a ∧ a ≤ c)) := by
  unfold impl_in.f
  by_cases h : b ≤ a <;> simp [h]
theorem l1In_eq (a b c : Int) : spec_l1In.f a b c = some (decide (b ≤ a ∧ a ≤ c)) := by
  unfold spec_l1In.f
  by_cases h : b ≤ a <;> simp [h]
theorem isTime_eq (a : Int) : impl_isTime.f a = some (decide (0 ≤ a ∧ a ≤ 1000000000000)) := by
  unfold impl_isTime.f
  rw [in_eq]
  rfl
theorem l2Time_eq (a : Int) : spec_l2Time.f a = some (decide (0 ≤ a ∧ a ≤ 1000000000000)) := by
  unfold spec_l2Time.f
  rw [l1In_eq]
  rfl
theorem ev_if {α : Type} {c : Prop} [Decidable c] {f g : Nat → Option α} {r : α} (hc : c) (h : Ev f r) : Ev (fun k => if c then f k else g k) r := by
  simp only [hc, if_true]
  exact h
theorem ev_ifn {α : Type} {c : Prop} [Decidable c] {f g : Nat → Option α} {r : α} (hc : ¬ c) (h : Ev g r) : Ev (fun k => if c then f k else g k) r := by
  simp only [hc, if_false]
  exact h
theorem ev2 {α : Type} {g : Nat → Option α} {r : α} (h : ∀ k, g (k + 2) = some r) : Ev g r := ⟨2, fun k hk => by obtain ⟨m, rfl⟩ : ∃ m, k = m + 2 := ⟨k - 2, by omega⟩; exact h m⟩
abbrev FS := S41
theorem rdF_nat (l : List FS) (i : Nat) (hi : i < l.length) : rd_T41 l (i : Int) = l[i] := by
  unfold rd_T41
  rw [List.getD_eq_getElem?_getD]
  simp [List.getElem?_eq_getElem hi]
def fOk (f : FS) : Bool := decide (0 ≤ f.f1 ∧ f.f1 ≤ 7 ∧ 0 ≤ f.f2 ∧ f.f2 ≤ 7 ∧ f.f3.size ≤ 64 ∧ 0 ≤ f.f4 ∧ f.f4 ≤ 1000000000000)
/-- The flights of a net, behind those whose numbers were seen. -/
def netL (nx : Int) : List FS → List Int → Bool
  | [], _ => true
  | f :: l, sn => if fOk f = true then (if 0 ≤ f.f0 ∧ f.f0 ≤ nx - 1 then (if f.f0 ∈ sn then false else netL nx l (sn ++ [f.f0])) else false) else false
def netOk (nx : Int) (l : List FS) : Bool := if 0 ≤ nx ∧ nx ≤ 1000000 then (if (l.length : Int) > 40 then false else netL nx l []) else false
theorem netOk_len {nx : Int} {l : List FS} (h : netOk nx l = true) : l.length ≤ 40 := by
  unfold netOk at h
  split at h
  · split at h
    · exact absurd h (by decide)
    · omega
  · exact absurd h (by decide)
theorem isNodeN_eq (a : Int) : impl_isNode.f a = some (decide (0 ≤ a ∧ a ≤ 7)) := by
  unfold impl_isNode.f
  rw [in_eq]
  rfl
theorem iFlightOk_eq (f : FS) : impl_flightOk.f f.f0 f.f1 f.f2 f.f3 f.f4 = some (fOk f) := by
  unfold impl_flightOk.f fOk
  simp only [isNodeN_eq, isTime_eq, Option.bind_some, decide_eq_true_eq]
  by_cases c1 : 0 ≤ f.f1 ∧ f.f1 ≤ 7
  · rw [if_pos c1]
    by_cases c2 : 0 ≤ f.f2 ∧ f.f2 ≤ 7
    · rw [if_pos c2]
      by_cases c3 : (f.f3.size : Int) ≤ 64
      · rw [if_pos c3]
        simp only [Option.some.injEq, decide_eq_decide]
        omega
      · rw [if_neg c3]
        simp only [Option.some.injEq]
        exact (decide_eq_false (by omega)).symm
    · rw [if_neg c2]
      simp only [Option.some.injEq]
      exact (decide_eq_false (by omega)).symm
  · rw [if_neg c1]
    simp only [Option.some.injEq]
    exact (decide_eq_false (by omega)).symm
theorem l4NodeN_eq (a : Int) : spec_l4Node.f a = some (decide (0 ≤ a ∧ a ≤ 7)) := by
  unfold spec_l4Node.f
  rw [l1In_eq]
  rfl
theorem sFlightOk_eq (f : FS) : spec_l5Flight.f f.f0 f.f1 f.f2 f.f3 f.f4 = some (fOk f) := by
  unfold spec_l5Flight.f fOk
  simp only [l4NodeN_eq, l2Time_eq, Option.bind_some, decide_eq_true_eq]
  by_cases c1 : 0 ≤ f.f1 ∧ f.f1 ≤ 7
  · rw [if_pos c1]
    by_cases c2 : 0 ≤ f.f2 ∧ f.f2 ≤ 7
    · rw [if_pos c2]
      by_cases c3 : (f.f3.size : Int) ≤ 64
      · rw [if_pos c3]
        simp only [Option.some.injEq, decide_eq_decide]
        omega
      · rw [if_neg c3]
        simp only [Option.some.injEq]
        exact (decide_eq_false (by omega)).symm
    · rw [if_neg c2]
      simp only [Option.some.injEq]
      exact (decide_eq_false (by omega)).symm
  · rw [if_neg c1]
    simp only [Option.some.injEq]
    exact (decide_eq_false (by omega)).symm
theorem iNetOk_l0 (nx : Int) (h0 : 0 ≤ nx ∧ nx ≤ 1000000) (l : List FS) (hl : l.length ≤ 40) (d : Nat) : ∀ (i : Nat) (sn : List Int), i + d = l.length → sn.length ≤ i → Ev (fun k => impl_NetOk.l0 k l (l.length : Int) (i : Int) nx l sn) (netL nx (l.drop i) sn) := by
  induction d with
  | zero =>
    intro i sn h hs
    refine Ev.step (fun k => by simp only [impl_NetOk.l0]; rfl) ?_
    simp only [show ¬ ((i : Int) < (l.length : Int)) by omega, if_false]
    rw [List.drop_eq_nil_of_le (by omega), netL]
    exact Ev.now _
  | succ d ih =>
    intro i sn h hs
    refine Ev.step (fun k => by simp only [impl_NetOk.l0]; rfl) ?_
    simp only [show (i : Int) < (l.length : Int) by omega, show (0 : Int) ≤ (i : Int) by omega, if_true]
    rw [rdF_nat l i (by omega), List.drop_eq_getElem_cons (show i < l.length by omega), netL, w64 (x := nx - 1) (by omega) (by omega), w64 (x := (i : Int) + 1) (by omega) (by omega)]
    generalize l[i]'(by omega) = f
    simp only [iFlightOk_eq, in_eq, Option.bind_some, decide_eq_true_eq]
    by_cases c1 : fOk f = true
    · rw [if_pos c1]
      refine ev_if c1 ?_
      by_cases c2 : 0 ≤ f.f0 ∧ f.f0 ≤ nx - 1
      · rw [if_pos c2]
        refine ev_if c2 ?_
        by_cases c3 : f.f0 ∈ sn
        · rw [if_pos c3]
          exact ev_if c3 (Ev.now _)
        · rw [if_neg c3]
          refine ev_ifn c3 (ev_if (by omega) ?_)
          exact ih (i + 1) _ (by omega) (by simp; omega)
      · rw [if_neg c2]
        exact ev_ifn c2 (Ev.now _)
    · rw [if_neg c1]
      exact ev_ifn c1 (Ev.now _)
theorem iNetOk_ev (nx : Int) (l : List FS) : Ev (fun k => impl_NetOk.f k nx l) (netOk nx l) := by
  unfold impl_NetOk.f netOk
  simp only [in_eq, Option.bind_some, decide_eq_true_eq]
  by_cases c : 0 ≤ nx ∧ nx ≤ 1000000
  · rw [if_pos c]
    refine ev_if c (Ev.step (fun k => by simp only [impl_NetOk.j0]; rfl) ?_)
    simp only [decide_eq_true_eq]
    by_cases c2 : (l.length : Int) > 40
    · rw [if_pos c2]
      exact ev_if c2 (Ev.now _)
    · rw [if_neg c2]
      refine ev_ifn c2 ?_
      simpa using iNetOk_l0 nx c l (by omega) l.length 0 [] (by omega) (by simp)
  · rw [if_neg c]
    refine ev_ifn c (Ev.step (fun k => by simp only [impl_NetOk.j0]; rfl) ?_)
    exact ev_if trivial (Ev.now _)
theorem mem_take_ids (l : List FS) (i : Nat) (hi : i < l.length) (x : Int) : (x ∈ (l.take (i + 1)).map (fun f => f.f0)) ↔ (x ∈ (l.take i).map (fun f => f.f0)) ∨ x = (l[i]).f0 := by
  rw [List.take_succ_eq_append_getElem hi, List.map_append, List.mem_append]
  simp
theorem ids_snoc (l : List FS) (i : Nat) (hi : i < l.length) : (l.take i).map (fun f => f.f0) ++ [(l[i]).f0] = (l.take (i + 1)).map (fun f => f.f0) := by
  rw [List.take_succ_eq_append_getElem hi, List.map_append]
  rfl
theorem sNetOk_l1 (nx : Int) (l : List FS) (hl : l.length ≤ 40) (i : Nat) (hi : i < l.length) (R : Bool) (hR : Ev (fun k => spec_NetOk.l0 k ((i + 1 : Nat) : Int) nx l) R) (d : Nat) : ∀ j : Nat, j + d = i → (l[i]).f0 ∉ (l.take j).map (fun f => f.f0) →
    Ev (fun k => spec_NetOk.l1 k (i : Int) (j : Int) nx l) (if (l[i]).f0 ∈ (l.take i).map (fun f => f.f0) then false else R) := by
  induction d with
  | zero =>
    intro j h hn
    have hji : j = i := by omega
    subst hji
    refine Ev.step (fun k => by simp only [spec_NetOk.l1]; rfl) ?_
    simp only [show ¬ ((j : Int) < (j : Int)) by omega, if_false]
    rw [if_neg hn, w64 (by omega) (by omega)]
    exact hR
  | succ d ih =>
    intro j h hn
    refine Ev.step (fun k => by simp only [spec_NetOk.l1]; rfl) ?_
    simp only [show (j : Int) < (i : Int) by omega, show (0 : Int) ≤ (j : Int) by omega, show (j : Int) < (l.length : Int) by omega, show (0 : Int) ≤ (i : Int) by omega, show (i : Int) < (l.length : Int) by omega, if_true]
    rw [rdF_nat l j (by omega), rdF_nat l i (by omega), w64 (by omega) (by omega)]
    by_cases c : (l[j]'(by omega)).f0 = (l[i]).f0
    · refine ev_if c ?_
      have hm : (l[i]).f0 ∈ (l.take i).map (fun f => f.f0) := by
        refine List.mem_map.2 ⟨l[j]'(by omega), ?_, c⟩
        exact List.mem_take_iff_getElem.2 ⟨j, by omega, rfl⟩
      rw [if_pos hm]
      exact Ev.now _
    · refine ev_ifn c ?_
      refine ih (j + 1) (by omega) ?_
      rw [mem_take_ids l j (by omega)]
      rintro (h1 | h1)
      · exact hn h1
      · exact c h1.symm
theorem sNetOk_l0 (nx : Int) (h0 : 0 ≤ nx ∧ nx ≤ 1000000) (l : List FS) (hl : l.length ≤ 40) (d : Nat) : ∀ (i : Nat), i + d = l.length → Ev (fun k => spec_NetOk.l0 k (i : Int) nx l) (netL nx (l.drop i) ((l.take i).map (fun f => f.f0))) := by
  induction d with
  | zero =>
    intro i h
    refine Ev.step (fun k => by simp only [spec_NetOk.l0]; rfl) ?_
    simp only [show ¬ ((i : Int) < (l.length : Int)) by omega, if_false]
    rw [List.drop_eq_nil_of_le (by omega), netL]
    exact Ev.now _
  | succ d ih =>
    intro i h
    have hi : i < l.length := by omega
    have h1 := sNetOk_l1 nx l hl i hi _ (ih (i + 1) (by omega)) i 0 (by omega) (by simp)
    have hs := ids_snoc l i hi
    have hr := rdF_nat l i hi
    refine Ev.step (fun k => by simp only [spec_NetOk.l0]; rfl) ?_
    simp only [show (i : Int) < (l.length : Int) by omega, show (0 : Int) ≤ (i : Int) by omega, if_true]
    rw [List.drop_eq_getElem_cons hi, netL, w64 (x := nx - 1) (by omega) (by omega), hs]
    rw [hr]
    generalize l[i]'(by omega) = f at *
    simp only [sFlightOk_eq, l1In_eq, Option.bind_some]
    by_cases c1 : fOk f = true
    · rw [if_pos c1]
      refine ev_if c1 ?_
      by_cases c2 : 0 ≤ f.f0 ∧ f.f0 ≤ nx - 1
      · rw [if_pos c2]
        refine Ev.step (fun k => by simp only [spec_NetOk.j2]; rfl) ?_
        simp only [c2, and_self, decide_true, Bool.not_true, Bool.false_eq_true, if_false]
        exact h1
      · rw [if_neg c2]
        refine Ev.step (fun k => by simp only [spec_NetOk.j2]; rfl) ?_
        simp only [c2, decide_false, Bool.not_false, if_true]
        exact Ev.now _
    · rw [if_neg c1]
      refine ev_ifn c1 (Ev.step (fun k => by simp only [spec_NetOk.j2]; rfl) ?_)
      exact ev_if trivial (Ev.now _)
theorem sNetOk_ev (nx : Int) (l : List FS) : Ev (fun k => spec_NetOk.f k nx l) (netOk nx l) := by
  unfold spec_NetOk.f netOk
  simp only [l1In_eq, Option.bind_some, decide_eq_true_eq]
  by_cases c : 0 ≤ nx ∧ nx ≤ 1000000
  · rw [if_pos c]
    refine ev_if c (Ev.step (fun k => by simp only [spec_NetOk.j0]; rfl) ?_)
    simp only [decide_eq_true_eq]
    by_cases c2 : (l.length : Int) > 40
    · rw [if_pos c2]
      exact ev_if c2 (Ev.now _)
    · rw [if_neg c2]
      refine ev_ifn c2 ?_
      simpa using sNetOk_l0 nx c l (by omega) l.length 0 (by omega)
  · rw [if_neg c]
    refine ev_ifn c (Ev.step (fun k => by simp only [spec_NetOk.j0]; rfl) ?_)
    exact ev_if trivial (Ev.now _)
theorem rdLF_nat (l : List S62) (i : Nat) (hi : i < l.length) : rd_T62 l (i : Int) = l[i] := by
  unfold rd_T62
  rw [List.getD_eq_getElem?_getD]
  simp [List.getElem?_eq_getElem hi]
theorem toFlight_eq (a b c : Int) (s : ByteArray) (d : Int) : laws_toFlight.f a b c s d = some (a, b, c, s, d) := by
  unfold laws_toFlight.f
  rfl
def cvF (x : S62) : FS := ⟨x.f0, x.f1, x.f2, x.f3, x.f4⟩
theorem cvF_set (l : List S62) (i : Nat) (h : i < l.length) (z : FS) : ((l.take i).map cvF ++ List.replicate (l.length - i) z).set i (cvF l[i]) = (l.take (i + 1)).map cvF ++ List.replicate (l.length - (i + 1)) z := by
  have e : l.length - i = (l.length - (i + 1)) + 1 := by omega
  have e2 : ((l.take i).map cvF).length = i := by rw [List.length_map, List.length_take]; omega
  rw [e, List.replicate_succ, List.set_append_right _ _ (by omega), e2, Nat.sub_self, List.set_cons_zero, List.take_succ_eq_append_getElem h, List.map_append, List.append_assoc]
  rfl
theorem toFlightS_l0 (l : List S62) (hl : l.length ≤ 9223372036854775806) (z : FS) (d : Nat) : ∀ i : Nat, i + d = l.length → Ev (fun k => laws_toFlightS.l0 k l ((l.take i).map cvF ++ List.replicate (l.length - i) z) i) (l.map cvF) := by
  induction d with
  | zero =>
    intro i hi
    refine Ev.step (fun k => by simp only [laws_toFlightS.l0]; rfl) ?_
    simp only [show ¬ ((i : Int) < (l.length : Int)) by omega, if_false]
    rw [List.take_of_length_le (by omega), show l.length - i = 0 by omega]
    simpa using Ev.now (l.map cvF)
  | succ d ih =>
    intro i hi
    refine Ev.step (fun k => by simp only [laws_toFlightS.l0]; rfl) ?_
    have hlen : ((l.take i).map cvF ++ List.replicate (l.length - i) z).length = l.length := by
      rw [List.length_append, List.length_map, List.length_take, List.length_replicate]
      omega
    rw [hlen]
    simp only [show (i : Int) < (l.length : Int) by omega, show (0 : Int) ≤ (i : Int) by omega, if_true, Int.toNat_natCast, toFlight_eq, Option.bind_some]
    rw [rdLF_nat l i (by omega), w64 (by omega) (by omega)]
    have := ih (i + 1) (by omega)
    rw [← cvF_set l i (by omega) z] at this
    exact this
theorem toFlightS_ev (l : List S62) (hl : l.length ≤ 1048576) : Ev (fun k => laws_toFlightS.f k l) (l.map cvF) := by
  unfold laws_toFlightS.f
  simp only [show (0 : Int) ≤ (l.length : Int) by omega, Int.toNat_natCast, show l.length ≤ 5864062014805 by omega, if_true]
  have := toFlightS_l0 l (by omega) z41 l.length 0 (by omega)
  simpa using this
theorem toNet_ev (nx : Int) (l : List S62) (hl : l.length ≤ 1048576) : Ev (fun k => laws_toNet.f k nx l) (nx, l.map cvF) := by
  unfold laws_toNet.f
  exact Ev.bind (toFlightS_ev l hl) (Ev.now _)
theorem eqFlight_self (a b c : Int) (s : ByteArray) (d : Int) : laws_eqFlight.f a b c s d a b c s d = some true := by
  unfold laws_eqFlight.f
  simp
theorem eqFlightS_l0 (l : List FS) (hl : l.length ≤ 9223372036854775806) (d : Nat) : ∀ i : Nat, i + d = l.length → Ev (fun k => laws_eqFlightS.l0 k l l i) true := by
  induction d with
  | zero =>
    intro i hi
    refine Ev.step (fun k => by simp only [laws_eqFlightS.l0]; rfl) ?_
    simp only [show ¬ ((i : Int) < (l.length : Int)) by omega, if_false]
    exact Ev.now true
  | succ d ih =>
    intro i hi
    refine Ev.step (fun k => by simp only [laws_eqFlightS.l0]; rfl) ?_
    simp only [show (i : Int) < (l.length : Int) by omega, show (0 : Int) ≤ (i : Int) by omega, if_true, eqFlight_self, Option.bind_some]
    rw [w64 (by omega) (by omega)]
    exact ih (i + 1) (by omega)
theorem eqFlightS_ev (l : List FS) (hl : l.length ≤ 9223372036854775806) : Ev (fun k => laws_eqFlightS.f k l l) true := by
  unfold laws_eqFlightS.f
  simp only [if_true]
  exact eqFlightS_l0 l hl l.length 0 (by omega)
theorem eqNet_ev (nx : Int) (l : List FS) (hl : l.length ≤ 9223372036854775806) : Ev (fun k => laws_eqNet.f k nx l nx l) true := by
  unfold laws_eqNet.f
  simp only [if_true]
  exact Ev.bind (eqFlightS_ev l hl) (by simp only [if_true]; exact Ev.now _)
theorem szFlight_ok (a b c : Int) (s : ByteArray) (d n : Int) : ∃ t, laws_szFlight.f a b c s d n = some t := by
  unfold laws_szFlight.f
  split <;> exact ⟨_, rfl⟩
theorem szFlightS_l0 (l : List S62) (hl : l.length ≤ 9223372036854775806) (d : Nat) : ∀ (i : Nat) (x : Int), i + d = l.length → ∃ t, Ev (fun k => laws_szFlightS.l0 k l x (i : Int)) t := by
  induction d with
  | zero =>
    intro i x h
    refine ⟨x, Ev.step (fun k => by simp only [laws_szFlightS.l0]; rfl) ?_⟩
    simp only [show ¬ ((i : Int) < (l.length : Int)) by omega, if_false]
    exact Ev.now _
  | succ d ih =>
    intro i x h
    obtain ⟨m, hm⟩ : ∃ m, rd_T62 l (i : Int) = m := ⟨_, rfl⟩
    obtain ⟨t, ht⟩ := szFlight_ok m.f0 m.f1 m.f2 m.f3 m.f4 x
    by_cases c : t < 0
    · refine ⟨-1, Ev.step (fun k => by simp only [laws_szFlightS.l0]; rfl) ?_⟩
      simp only [show (i : Int) < (l.length : Int) by omega, show (0 : Int) ≤ (i : Int) by omega, if_true, hm, ht, Option.bind_some, c]
      exact Ev.now _
    · obtain ⟨r, hr⟩ := ih (i + 1) t (by omega)
      refine ⟨r, Ev.step (fun k => by simp only [laws_szFlightS.l0]; rfl) ?_⟩
      simp only [show (i : Int) < (l.length : Int) by omega, show (0 : Int) ≤ (i : Int) by omega, if_true, hm, ht, Option.bind_some, c, if_false]
      rw [w64 (by omega) (by omega)]
      exact hr
theorem szNet_ev (nx : Int) (l : List S62) (hm : l.length ≤ 9223372036854775807) : ∃ t, Ev (fun k => laws_szNet.f k nx l 1048576) t ∧ (¬ t < 0 → l.length ≤ 1048576) := by
  unfold laws_szNet.f laws_szFlightS.f
  rw [w64 (x := 1048576 - (l.length : Int)) (by omega) (by omega)]
  by_cases c : 1048576 - (l.length : Int) < 0
  · simp only [c, if_true, Option.bind_some, show (-1 : Int) < 0 by omega]
    exact ⟨-1, Ev.now _, by omega⟩
  · simp only [c, if_false]
    obtain ⟨t, ht⟩ := szFlightS_l0 l (by omega) l.length 0 (1048576 - (l.length : Int)) (by omega)
    by_cases c2 : t < 0
    · exact ⟨-1, Ev.bind ht (ev_if c2 (Ev.now _)), by omega⟩
    · exact ⟨t, Ev.bind ht (ev_ifn c2 (Ev.now _)), fun _ => by omega⟩
def oldL (l : List FS) : List FS → Nat → Int → Int
  | [], _, b => b
  | f :: r, i, b => if f.f4 < (rd_T41 l b).f4 then oldL l r (i + 1) (i : Int) else oldL l r (i + 1) b
def netOldest (nx : Int) (l : List FS) : Int := if netOk nx l = true then (if l.length = 0 then -1 else oldL l l 0 0) else -1
theorem iNetOldest_l0 (nx : Int) (l : List FS) (hl : l.length ≤ 40) (d : Nat) : ∀ (i : Nat) (b : Int), i + d = l.length → 0 ≤ b → b < l.length → Ev (fun k => impl_NetOldest.l0 k b l (l.length : Int) (i : Int) nx l) (oldL l (l.drop i) i b) := by
  induction d with
  | zero =>
    intro i b h hb0 hb1
    refine Ev.step (fun k => by simp only [impl_NetOldest.l0]; rfl) ?_
    simp only [show ¬ ((i : Int) < (l.length : Int)) by omega, if_false]
    rw [List.drop_eq_nil_of_le (by omega), oldL]
    exact Ev.now _
  | succ d ih =>
    intro i b h hb0 hb1
    refine Ev.step (fun k => by simp only [impl_NetOldest.l0]; rfl) ?_
    simp only [show (i : Int) < (l.length : Int) by omega, show (0 : Int) ≤ (i : Int) by omega, hb0, hb1, if_true]
    rw [rdF_nat l i (by omega), List.drop_eq_getElem_cons (show i < l.length by omega), oldL, w64 (x := (i : Int) + 1) (by omega) (by omega)]
    by_cases c : (l[i]'(by omega)).f4 < (rd_T41 l b).f4
    · rw [if_pos c]
      exact ev_if c (ih (i + 1) _ (by omega) (by omega) (by omega))
    · rw [if_neg c]
      exact ev_ifn c (ih (i + 1) _ (by omega) hb0 hb1)
theorem iNetOldest_ev (nx : Int) (l : List FS) : Ev (fun k => impl_NetOldest.f k nx l) (netOldest nx l) := by
  unfold impl_NetOldest.f netOldest
  refine Ev.bind (iNetOk_ev nx l) ?_
  by_cases c : netOk nx l = true
  · have hl := netOk_len c
    rw [if_pos c]
    refine ev_if c (Ev.step (fun k => by simp only [impl_NetOldest.j0]; rfl) ?_)
    by_cases c2 : l.length = 0
    · rw [if_pos c2]
      exact ev_if (by rw [beq_iff_eq]; omega) (Ev.now _)
    · rw [if_neg c2]
      refine ev_ifn (by rw [beq_iff_eq]; omega) ?_
      simpa using iNetOldest_l0 nx l hl l.length 0 0 (by omega) (by omega) (by omega)
  · rw [if_neg c]
    refine ev_ifn c (Ev.step (fun k => by simp only [impl_NetOldest.j0]; rfl) ?_)
    exact ev_if trivial (Ev.now _)
theorem sNetOldest_l0 (nx : Int) (l : List FS) (hl : l.length ≤ 40) (d : Nat) : ∀ (i : Nat) (b : Int), i + d = l.length → 0 ≤ b → b < l.length → Ev (fun k => spec_NetOldest.l0 k b (i : Int) nx l) (oldL l (l.drop i) i b) := by
  induction d with
  | zero =>
    intro i b h hb0 hb1
    refine Ev.step (fun k => by simp only [spec_NetOldest.l0]; rfl) ?_
    simp only [show ¬ ((i : Int) < (l.length : Int)) by omega, if_false]
    rw [List.drop_eq_nil_of_le (by omega), oldL]
    exact Ev.now _
  | succ d ih =>
    intro i b h hb0 hb1
    refine Ev.step (fun k => by simp only [spec_NetOldest.l0]; rfl) ?_
    simp only [show (i : Int) < (l.length : Int) by omega, show (0 : Int) ≤ (i : Int) by omega, show ¬ (b < 0) by omega, hb0, hb1, if_true, if_false]
    rw [rdF_nat l i (by omega), List.drop_eq_getElem_cons (show i < l.length by omega), oldL, w64 (x := (i : Int) + 1) (by omega) (by omega)]
    by_cases c : (l[i]'(by omega)).f4 < (rd_T41 l b).f4
    · rw [if_pos c]
      exact ev_if c (ih (i + 1) _ (by omega) (by omega) (by omega))
    · rw [if_neg c]
      exact ev_ifn c (ih (i + 1) _ (by omega) hb0 hb1)
theorem sNetOldest_ev (nx : Int) (l : List FS) : Ev (fun k => spec_NetOldest.f k nx l) (netOldest nx l) := by
  unfold spec_NetOldest.f netOldest
  refine Ev.bind (sNetOk_ev nx l) ?_
  by_cases c : netOk nx l = true
  · have hl := netOk_len c
    rw [if_pos c]
    refine ev_if c (Ev.step (fun k => by simp only [spec_NetOldest.l0]; rfl) ?_)
    by_cases c2 : l.length = 0
    · rw [if_pos c2]
      exact ev_ifn (by omega) (Ev.now _)
    · rw [if_neg c2]
      refine ev_if (by omega) ?_
      simp only [show (-1 : Int) < 0 by omega, if_true]
      have h0 := sNetOldest_l0 nx l hl (l.length - 1) 1 0 (by omega) (by omega) (by omega)
      have e : oldL l l 0 0 = oldL l (l.drop 1) 1 0 := by
        obtain ⟨f, r, rfl⟩ : ∃ f r, l = f :: r := by
          cases l with
          | nil => exact absurd rfl c2
          | cons f r => exact ⟨f, r, rfl⟩
        show (if f.f4 < (rd_T41 (f :: r) 0).f4 then _ else _) = _
        rw [if_neg (by unfold rd_T41; simp)]
        rfl
      rw [e, w64 (x := 0 + 1) (by omega) (by omega)]
      exact h0
  · rw [if_neg c]
    exact ev_ifn c (Ev.now _)

theorem FnExactNetOldest (a0_0 : Int) (l0_1 : List S62) (_h : (Lit.int .i64 a0_0).wf = true ∧ ∀ x ∈ l0_1, (Lit.int .i64 x.f0).wf = true ∧ (Lit.int .i64 x.f1).wf = true ∧ (Lit.int .i64 x.f2).wf = true ∧ x.f3.size ≤ maxLen ∧ (Lit.int .i64 x.f4).wf = true) (hm : l0_1.length ≤ 9223372036854775807) : ∃ k, laws_FnExactNetOldest.f k a0_0 l0_1 = some true := by
  apply Ev.rounds
  unfold laws_FnExactNetOldest.f
  obtain ⟨t, ht, hlen⟩ := szNet_ev a0_0 l0_1 hm
  refine Ev.bind ht ?_
  by_cases c : t < 0
  · exact ev_if c (Ev.now true)
  · have hl := hlen c
    refine ev_ifn c ?_
    refine Ev.bind (toNet_ev a0_0 l0_1 hl) ?_
    refine Ev.bind (sNetOldest_ev _ _) ?_
    refine Ev.bind (toNet_ev a0_0 l0_1 hl) ?_
    refine Ev.bind (iNetOldest_ev _ _) ?_
    refine ev_if rfl ?_
    refine Ev.bind (toNet_ev a0_0 l0_1 hl) ?_
    refine Ev.bind (eqNet_ev _ _ (by rw [List.length_map]; omega)) ?_
    simp only [if_true]
    exact Ev.now true

end Go.Proofs.Ytlbdhjkihndehaa.Pure
