/- A map of whole numbers to bools that the call makes, as a set of numbers: made, asked, added to. No condition. -/
import Derived.Test.YtlbdhjkihndehaaWMore
import Derived.Test.YtlbdhjkihndehaaWLast
import Derived.Test.YtlbdhjkihndehaaWWords
import Derived.Maps.OwnOps
import Derived.Maps.Views
import Derived.Maps.OwnSet
namespace Go.Proofs.YtlbdhjkihndehaaW.PrintMore
open Go.RowKit Go.Maps Go.Proofs.YtlbdhjkihndehaaW.PrintWords Go.Proofs.YtlbdhjkihndehaaW.PrintLast
section
theorem plainElem_bool_inv {H : Type} {P : Program} {e : TypeId} (he : P.underlying e = some .bool) {v : Value} {z : DataW H × List MemPlace} (h : plainElem P e v = some z) : ∃ x, v = .bool x ∧ z = (.lit (.bool x), []) := by
  unfold plainElem at h
  rw [he] at h
  cases v <;> simp at h
  exact ⟨_, rfl, h.symm⟩
/-- Block g is a map whose true keys are just these numbers. -/
structure SeenIn (P : Program) (k e : TypeId) (w : World) (g : Nat) (sn : List Int) : Prop where mk ::
  out : ∃ (n : Nat) (D : DataW Unit), w.ownsMap P k (plainElem P e) g n D ∧ n ≤ sn.length ∧ IsMap D ∧ ∀ x : Int, D.atKey (.int .i64 x) (.lit (.bool false)) = .lit (.bool (decide (x ∈ sn)))
variable {P : Program} {k e : TypeId} {w : World} {g : Nat} {sn : List Int}
theorem SeenIn.made (P : Program) (k e : TypeId) (w : World) : SeenIn P k e (w.alloc (.map #[] 0)) w.heap.size [] :=
  ⟨⟨0, .map [], World.ownsMap_made w P k _, Nat.le_refl _, ⟨_, rfl⟩, fun x => by simp [DataW.atKey]⟩⟩
theorem SeenIn.lt (h : SeenIn P k e w g sn) : g < w.heap.size := by
  obtain ⟨⟨n, D, h1, _⟩⟩ := h
  exact h1.lt
theorem SeenIn.kept {w' : World} {row : Option Nat} (h : SeenIn P k e w g sn) (hg : w.grownBy w' row) (hne : some g ≠ row) : SeenIn P k e w' g sn := by
  obtain ⟨⟨n, D, h1, h2⟩⟩ := h
  exact ⟨⟨n, D, h1.kept hg hne, h2⟩⟩
theorem seen_below {w' : World} (h : SeenIn P k e w g sn) (hb : Below w.heap.size w w') : SeenIn P k e w' g sn := h.kept (grown_of_below hb none) (by simp)
theorem seen_alloc (h : SeenIn P k e w g sn) (o : Obj) : SeenIn P k e (w.alloc o) g sn := by
  obtain ⟨⟨n, D, h1, h2⟩⟩ := h
  exact ⟨⟨n, D, h1.alloc o, h2⟩⟩
theorem seen_drew (h : SeenIn P k e w g sn) : SeenIn P k e w.drew g sn := ⟨h.out⟩
theorem seen_drewN (h : SeenIn P k e w g sn) (m : Nat) : SeenIn P k e (w.drewN m) g sn := ⟨h.out⟩
theorem seen_set {b j : Nat} {v : Value} (h : SeenIn P k e w g sn) (hne : g ≠ b) : SeenIn P k e (w.setCell ⟨b, j, none⟩ v) g sn := by
  obtain ⟨⟨n, D, ⟨es, clock, hb, hr⟩, h2⟩⟩ := h
  exact ⟨⟨n, D, ⟨es, clock, (Below.heap_setCell w ⟨b, j, none⟩ v g hne).trans hb, hr⟩, h2⟩⟩
variable {ops : Array Oper} {o : Oper} {rest : List Oper} {a : Act} {Q : Exit → Act → World → Prop}
theorem map_event {W : World} (hgd : o.guard = none) {N : Tmp} (_hd : o.dst = some N) (k e t : TypeId) (hop : o.op = .makeMap t none)
    (h : ∀ g, g = W.heap.size → ∀ w1, SeenIn P k e w1 g [] → Below W.heap.size W w1 → wpList P ops Q rest (a.put o.dst (.map (some g))) w1) : wpList P ops Q (o :: rest) a W := by
  have hrun : (execOp a.eval o).run P W = .ok (.value (.map (some W.heap.size))) (W.alloc (.map #[] 0)) := by
    unfold execOp
    simp [hop, run_makeMap]
  exact Kd.event_run hgd hrun (h _ rfl _ (SeenIn.made P k e W) (below_alloc (Below.refl _ _) _))
theorem seen_lookup (hgd : o.guard = none) (m x : Operand) (t : TypeId) (hop : o.op = Op.lookup t m x false)
    (K : Keyed P k) (ht : P.underlying t = some (.map k e)) (he : P.underlying e = some .bool) (hk : P.underlying k = some (.int .i64)) (hz : (zeroValue e).run P w = .ok (.bool false) w)
    (hm : a.eval m = .map (some g)) (h : SeenIn P k e w g sn) (y : Int) (hx : a.eval x = .int .i64 y) (hw : (Lit.int .i64 y).wf = true)
    (hK : wpList P ops Q rest (a.put o.dst (.bool (decide (y ∈ sn)))) w) : wpList P ops Q (o :: rest) a w := by
  obtain ⟨⟨n, D, h1, _, _, h4⟩⟩ := h
  obtain ⟨v, ps, hrun, hv⟩ := h1.lookup K ht hz (plainElem_bool he false) (keyOf_int_mk (q := .i64) (a := y) hk hw)
  rw [h4 y] at hv
  obtain ⟨b, rfl, hb⟩ := plainElem_bool_inv he hv
  simp only [Prod.mk.injEq, DataW.lit.injEq, Lit.bool.injEq] at hb
  obtain ⟨hb, _⟩ := hb
  subst hb
  refine wpList_plain hgd fun K' hK' => ?_
  unfold Oper.wp
  simp [execOp, hop, hm, hx, hrun, Result.andThen]
  exact hK' _ _ hK
theorem seen_update (hgd : o.guard = none) (m x v : Operand) (t : TypeId) (hop : o.op = Op.mapUpdate t m x v)
    (K : Keyed P k) (ht : P.underlying t = some (.map k e)) (he : P.underlying e = some .bool) (hk : P.underlying k = some (.int .i64))
    (hm : a.eval m = .map (some g)) (h : SeenIn P k e w g sn) (hn : sn.length < 8796093022208) (y : Int) (hx : a.eval x = .int .i64 y) (hv : a.eval v = .bool true) (hw : (Lit.int .i64 y).wf = true)
    (hK : ∀ w', SeenIn P k e w' g (sn ++ [y]) → w.grownBy w' (some g) → wpList P ops Q rest (a.put o.dst undef) w') : wpList P ops Q (o :: rest) a w := by
  obtain ⟨⟨n, D, h1, h2, h3, h4⟩⟩ := h
  refine wpList_mapUpdate_own w hgd m x v t hop k e K ht (plainElem P e) g n D hm h1 (by unfold maxLen; omega) (.int .i64 y) (.bool true) (.int .i64 y) hx hv (keyOf_int_mk hk hw) (.lit (.bool true)) [] (plainElem_bool he true) (fun w' h5 h6 => hK w' ⟨⟨n + 1, _, h5, by simp; omega, h3.put _ _, fun z => ?_⟩⟩ h6)
  by_cases c : z = y
  · subst c
    rw [atKey_put_same h3 (by exact trivial)]
    simp
  · rw [atKey_put_other (by intro hh; injection hh with _ h7; exact c h7), h4 z]
    simp [c]
end
end Go.Proofs.YtlbdhjkihndehaaW.PrintMore
