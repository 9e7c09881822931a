/- A map of whole numbers to bools that the call makes, as a set of numbers: made, asked, added to. No condition. -/
import Derived.Test.YtlbdhjkihndehaaWMore
import Derived.Test.YtlbdhjkihndehaaWLast
import Derived.Test.YtlbdhjkihndehaaWWords
import Derived.Maps.OwnOps
import Derived.Maps.Views
import Derived.Maps.OwnSet
import Derived.Lib.SliceRun
namespace Go.Proofs.YtlbdhjkihndehaaW.PrintMore
open Go.RowKit Go.Maps Go.Proofs.YtlbdhjkihndehaaW.PrintWords Go.Proofs.YtlbdhjkihndehaaW.PrintLast
section
theorem plainElem_bool_inv {H : Type} {P : Program} {e : TypeId} (he : P.underlying e = some .bool) {v : Value} {z : DataW H × List MemPlace} (h : plainElem P e v = some z) : ∃ x, v = .bool x ∧ z = (.lit (.bool x), []) := by
  unfold plainElem at h
  rw [he] at h
  cases v <;> simp at h
  exact ⟨_, rfl, h.symm⟩
/-- Block g is a map whose true keys are just these numbers. -/
structure SeenIn (P : Program) (k e : TypeId) (w : World) (g : Nat) (sn : List Int) : Prop where mk ::
  out : ∃ (n : Nat) (D : DataW Unit), w.ownsMap P k (plainElem P e) g n D ∧ n ≤ sn.length ∧ IsMap D ∧ ∀ x : Int, D.atKey (.int .i64 x) (.lit (.bool false)) = .lit (.bool (decide (x ∈ sn)))
variable {P : Program} {k e : TypeId} {w : World} {g : Nat} {sn : List Int}
theorem SeenIn.made (P : Program) (k e : TypeId) (w : World) : SeenIn P k e (w.alloc (.map #[] 0)) w.heap.size [] :=
  ⟨⟨0, .map [], World.ownsMap_made w P k _, Nat.le_refl _, ⟨_, rfl⟩, fun x => by simp [DataW.atKey]⟩⟩
theorem SeenIn.lt (h : SeenIn P k e w g sn) : g < w.heap.size := by
  obtain ⟨⟨n, D, h1, _⟩⟩ := h
  exact h1.lt
theorem SeenIn.kept {w' : World} {row : Option Nat} (h : SeenIn P k e w g sn) (hg : w.grownBy w' row) (hne : some g ≠ row) : SeenIn P k e w' g sn := by
  obtain ⟨⟨n, D, h1, h2⟩⟩ := h
  exact ⟨⟨n, D, h1.kept hg hne, h2⟩⟩
theorem seen_below {w' : World} (h : SeenIn P k e w g sn) (hb : Below w.heap.size w w') : SeenIn P k e w' g sn := h.kept (grown_of_below hb none) (by simp)
theorem seen_alloc (h : SeenIn P k e w g sn) (o : Obj) : SeenIn P k e (w.alloc o) g sn := by
  obtain ⟨⟨n, D, h1, h2⟩⟩ := h
  exact ⟨⟨n, D, h1.alloc o, h2⟩⟩
theorem seen_drew (h : SeenIn P k e w g sn) : SeenIn P k e w.drew g sn := ⟨h.out⟩
theorem seen_drewN (h : SeenIn P k e w g sn) (m : Nat) : SeenIn P k e (w.drewN m) g sn := ⟨h.out⟩
theorem seen_set {b j : Nat} {v : Value} (h : SeenIn P k e w g sn) (hne : g ≠ b) : SeenIn P k e (w.setCell ⟨b, j, none⟩ v) g sn := by
  obtain ⟨⟨n, D, ⟨es, clock, hb, hr⟩, h2⟩⟩ := h
  exact ⟨⟨n, D, ⟨es, clock, (Below.heap_setCell w ⟨b, j, none⟩ v g hne).trans hb, hr⟩, h2⟩⟩
variable {ops : Array Oper} {o : Oper} {rest : List Oper} {a : Act} {Q : Exit → Act → World → Prop}
theorem map_event {W : World} (hgd : o.guard = none) {N : Tmp} (_hd : o.dst = some N) (k e t : TypeId) (hop : o.op = .makeMap t none)
    (h : ∀ g, g = W.heap.size → ∀ w1, SeenIn P k e w1 g [] → Below W.heap.size W w1 → wpList P ops Q rest (a.put o.dst (.map (some g))) w1) : wpList P ops Q (o :: rest) a W := by
  have hrun : (execOp a.eval o).run P W = .ok (.value (.map (some W.heap.size))) (W.alloc (.map #[] 0)) := by
    unfold execOp
    simp [hop, run_makeMap]
  exact Kd.event_run hgd hrun (h _ rfl _ (SeenIn.made P k e W) (below_alloc (Below.refl _ _) _))
theorem seen_lookup (hgd : o.guard = none) (m x : Operand) (t : TypeId) (hop : o.op = Op.lookup t m x false)
    (K : Keyed P k) (ht : P.underlying t = some (.map k e)) (he : P.underlying e = some .bool) (hk : P.underlying k = some (.int .i64)) (hz : (zeroValue e).run P w = .ok (.bool false) w)
    (hm : a.eval m = .map (some g)) (h : SeenIn P k e w g sn) (y : Int) (hx : a.eval x = .int .i64 y) (hw : (Lit.int .i64 y).wf = true)
    (hK : wpList P ops Q rest (a.put o.dst (.bool (decide (y ∈ sn)))) w) : wpList P ops Q (o :: rest) a w := by
  obtain ⟨⟨n, D, h1, _, _, h4⟩⟩ := h
  obtain ⟨v, ps, hrun, hv⟩ := h1.lookup K ht hz (plainElem_bool he false) (keyOf_int_mk (q := .i64) (a := y) hk hw)
  rw [h4 y] at hv
  obtain ⟨b, rfl, hb⟩ := plainElem_bool_inv he hv
  simp only [Prod.mk.injEq, DataW.lit.injEq, Lit.bool.injEq] at hb
  obtain ⟨hb, _⟩ := hb
  subst hb
  refine wpList_plain hgd fun K' hK' => ?_
  unfold Oper.wp
  simp [execOp, hop, hm, hx, hrun, Result.andThen]
  exact hK' _ _ hK
theorem seen_update (hgd : o.guard = none) (m x v : Operand) (t : TypeId) (hop : o.op = Op.mapUpdate t m x v)
    (K : Keyed P k) (ht : P.underlying t = some (.map k e)) (he : P.underlying e = some .bool) (hk : P.underlying k = some (.int .i64))
    (hm : a.eval m = .map (some g)) (h : SeenIn P k e w g sn) (hn : sn.length < 8796093022208) (y : Int) (hx : a.eval x = .int .i64 y) (hv : a.eval v = .bool true) (hw : (Lit.int .i64 y).wf = true)
    (hK : ∀ w', SeenIn P k e w' g (sn ++ [y]) → w.grownBy w' (some g) → wpList P ops Q rest (a.put o.dst undef) w') : wpList P ops Q (o :: rest) a w := by
  obtain ⟨⟨n, D, h1, h2, h3, h4⟩⟩ := h
  refine wpList_mapUpdate_own w hgd m x v t hop k e K ht (plainElem P e) g n D hm h1 (by unfold maxLen; omega) (.int .i64 y) (.bool true) (.int .i64 y) hx hv (keyOf_int_mk hk hw) (.lit (.bool true)) [] (plainElem_bool he true) (fun w' h5 h6 => hK w' ⟨⟨n + 1, _, h5, by simp; omega, h3.put _ _, fun z => ?_⟩⟩ h6)
  by_cases c : z = y
  · subst c
    rw [atKey_put_same h3 (by exact trivial)]
    simp
  · rw [atKey_put_other (by intro hh; injection hh with _ h7; exact c h7), h4 z]
    simp [c]
/-- 'clear' of what stands behind the first m elements of a row of the call's own. -/
theorem R_clear {α : Type} {d : Kd α} {P : Program} {t e : TypeId} {z : Value} {W : World} {base : Nat} {ok : Nat → Prop} {A : Option Addr} {n c m : Nat} {xs : List α} (ht : P.underlying t = some (.slice e)) (hz : ∀ w, (zeroValue e).run P w = .ok z w)
    (hzs : z.cells.size = d.sz) (hz1 : ∀ q ∈ z.cells.toList, q.oneCell' = true) (HO : d.R e W base ok (.slice A n c) xs) (hm : m ≤ xs.length) (c1 : Nat) :
    ∃ w1, (∀ ty, (Builtin.clear_ #[t] ty #[.slice (if c = m then A else A.map (·.add (m * d.sz))) (xs.length - m) c1]).run P W = .ok (.tuple #[]) w1) ∧ d.R e w1 base ok (.slice A m c) (xs.take m) ∧ W.grownBy w1 (Value.slice A n c).ownBlock := by
  by_cases h0 : xs.length - m = 0
  · refine ⟨W, fun ty => ?_, Kd.R_take HO hm, ⟨rfl, rfl, rfl, Nat.le_refl _, fun _ _ _ => rfl⟩⟩
    rw [h0]
    generalize (if c = m then A else A.map (·.add (m * d.sz))) = B
    cases B <;> simp [Builtin.clear_, run_underlying ht]
  · have hT := Kd.R_take HO hm
    obtain ⟨hok, inner, ho, hr⟩ := HO
    rcases ho.2 with ⟨hv, hn0⟩ | ⟨g, cap, cur, hv, hb, hh, hnc, hcm, hcs, htk⟩
    · omega
    · injection hv with ha hn' hc'
      subst ha hn' hc'
      have hne : ¬ c = m := by omega
      have hzl : (Builtin.zeroCells z.cells (xs.length - m)).toList.length = (xs.length - m) * d.sz := by
        rw [Array.length_toList, size_zeroCells, hzs]
      have hfit : m * d.sz + (Builtin.zeroCells z.cells (xs.length - m)).toList.length ≤ cur.size := by
        rw [hzl, hcs, ← Nat.add_mul]
        exact Nat.mul_le_mul_right _ (by omega)
      obtain ⟨cur', h3, h4, h5⟩ := setCells_row (Builtin.zeroCells z.cells (xs.length - m)).toList (m * d.sz) W cur hh hfit
      obtain ⟨s1, s2, s3, s4⟩ := setCells_same g (Builtin.zeroCells z.cells (xs.length - m)).toList (m * d.sz) W
      have hrun := run_storeCells_cells (P := P) g (m * d.sz) (Builtin.zeroCells z.cells (xs.length - m)).toList 0 W
        (by
          intro j hj
          rw [Nat.add_zero, cell_of_row W g _ cur e (0, 0) hh]
          rw [Array.getElem?_eq_getElem (by omega)]
          rfl)
        (by
          intro j hj
          exact blk_frozen hh _)
        (by
          intro v hv'
          rw [Array.mem_toList_iff, Builtin.zeroCells, Array.mem_map] at hv'
          obtain ⟨q, hq, rfl⟩ := hv'
          rw [Array.mem_range] at hq
          have hpos : 0 < z.cells.size := by
            rcases Nat.eq_zero_or_pos z.cells.size with h | h
            · rw [h, Nat.mul_zero] at hq
              omega
            · exact h
          have hlt : q % z.cells.size < z.cells.size := Nat.mod_lt _ hpos
          rw [getElem!_pos z.cells _ hlt]
          exact hz1 _ (by rw [Array.mem_toList_iff]; exact Array.getElem_mem hlt))
      simp only [Nat.add_zero] at hrun
      have hg : W.grownBy (W.setCells g (m * d.sz) (Builtin.zeroCells z.cells (xs.length - m)).toList) (some g) := ⟨s1, s2, s3, by rw [s4]; exact Nat.le_refl _, fun k _ hk => setCells_far _ _ k (fun he => hk (by rw [he]))⟩
      refine ⟨_, fun ty => ?_, ?_, hg⟩
      · rw [if_neg hne]
        have hadd : (⟨g, 0, none⟩ : Addr).add (m * d.sz) = ⟨g, m * d.sz, none⟩ := add_plain g _
        simp only [Option.map_some, hadd]
        obtain ⟨q, hq⟩ : ∃ q, xs.length - m = q + 1 := ⟨xs.length - m - 1, by omega⟩
        rw [hq] at hrun ⊢
        simp [Builtin.clear_, run_underlying ht, hz, hrun]
      · refine ⟨fun k hk => hok k hk, inner.take (m * d.sz), ⟨?_, .inr ⟨g, c, cur', ?_, hb, h3, ?_, hcm, by rw [h4, hcs], ?_⟩⟩, ?_⟩
        · rw [List.length_take, List.length_take, Nat.min_eq_left hm, ho.1]
          exact Nat.min_eq_left (Nat.mul_le_mul_right _ hm)
        · rw [List.length_take, Nat.min_eq_left hm]
        · rw [List.length_take]; omega
        · have hle : m * d.sz ≤ cur.toList.length := by
            rw [Array.length_toList]
            omega
          rw [List.length_take, Nat.min_eq_left hm, h5, List.append_assoc, List.take_left' (by rw [List.length_take]; omega), ← htk, List.take_take, Nat.min_eq_left (Nat.mul_le_mul_right _ hm)]
        · refine (Kd.reps_take hr hm).imp_ (fun _ _ hq => ?_)
          exact d.M_mono (fun k hk => hk.1) (d.M_move (fun k hk => hg.block k hk.2.2.1 hk.1.2) (d.M_bound hq))
end
end Go.Proofs.YtlbdhjkihndehaaW.PrintMore
