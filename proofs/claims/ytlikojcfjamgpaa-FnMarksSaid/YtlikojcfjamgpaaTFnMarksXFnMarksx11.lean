-- Written by a program of this claim's session (wip/xprint.py), out of the translation.
import Derived.Test.YtlikojcfjamgpaaTFnMarksXFnMarksx0
import Derived.Test.YtlikojcfjamgpaaTFnMarksXFnMarksx10
namespace Go.Proofs.Ytlikojcfjamgpaa.XFnMarks
open Go.RowKit Go.Proofs.YtlikojcfjamgpaaW.PrintWords Go.Proofs.YtlikojcfjamgpaaW.PrintLast Go.Proofs.YtlikojcfjamgpaaW.PrintMore
open Go.Proofs.YtlikojcfjamgpaaW.PrintWords renaming blk_drewN → bA, blk_drew → bB, blk_alloc → bC, pw_below_drewN → bD, below_alloc → bE, below_drew1 → bF, Aside0.mk → zM, below_step → bG, blk_put → bH
open List renaming setIfInBounds_toArray → zS, set_cons_zero → z0, set_cons_succ → z1
attribute [local go_sem] max2_int min2_int max_two min_two max_three min_three max_four min_four
set_option linter.unusedVariables false
set_option linter.unusedSimpArgs false
set_option maxHeartbeats 8000000
set_option maxRecDepth 100000

/-! ### impl_OscRun: function 33 -/
mutual
def impl_OscRun.j0 : Nat → List (S86) → Bool → Int → Int → Int → Int → Option ((List (S38)) × Int)
 | 0, _, _, _, _, _, _ => none
 | k + 1, x1, x18, x296000, x296001, x296002, x296003 => if x18 = true then (some (([] : List (S38)), 0)) else (impl_OscRun.l0 k x1 (([(⟨x296002, x296003⟩ : S38)] : List (S38))) x1 (x1.length : Int) 0 x296000 x296001 x296002 x296003)
def impl_OscRun.l0 : Nat → List (S86) → List (S38) → List (S86) → Int → Int → Int → Int → Int → Int → Option ((List (S38)) × Int)
 | 0, _, _, _, _, _, _, _, _, _ => none
 | k + 1, x1, x6, x25, x26, x27, x296000, x296001, x296002, x296003 => if x27 < x26 then (if 0 ≤ x27 then (if x27 < (x25.length : Int) then ((impl_OscStep.f k x296000 x296001 x296002 x296003 ((rd_T86 x25 x27).f0) ((rd_T86 x25 x27).f1)).bind fun bt302 => (if bt302.2.2.2.2 = true then (if x6.length < 8796093022208 then (impl_OscRun.l0 k x1 (x6 ++ [(⟨bt302.2.2.1, bt302.2.2.2.1⟩ : S38)]) x25 x26 (wrap64 (x27 + 1)) bt302.1 bt302.2.1 bt302.2.2.1 bt302.2.2.2.1) else (none)) else (some (x6, x27)))) else (none)) else (none)) else (some (x6, (x1.length : Int)))
end
def impl_OscRun.f (k : Nat) (a0_0 : Int) (a0_1 : Int) (a0_2 : Int) (a0_3 : Int) (l1 : List (S86)) : Option ((List (S38)) × Int) := (impl_OscOk.f a0_0 a0_1 a0_2 a0_3).bind fun t296 => (if t296 = true then (impl_OscRun.j0 k l1 (decide ((l1.length : Int) > 200)) a0_0 a0_1 a0_2 a0_3) else (impl_OscRun.j0 k l1 true a0_0 a0_1 a0_2 a0_3))
theorem impl_OscRun.mono_l : ∀ k, (∀ y0 y1 y2 y3 y4 y5, LeO (impl_OscRun.j0 k y0 y1 y2 y3 y4 y5) (impl_OscRun.j0 (k + 1) y0 y1 y2 y3 y4 y5)) ∧ (∀ y0 y1 y2 y3 y4 y5 y6 y7 y8, LeO (impl_OscRun.l0 k y0 y1 y2 y3 y4 y5 y6 y7 y8) (impl_OscRun.l0 (k + 1) y0 y1 y2 y3 y4 y5 y6 y7 y8))
 | 0 => ⟨fun _ _ _ _ _ _ r h => by simp [impl_OscRun.j0] at h, fun _ _ _ _ _ _ _ _ _ r h => by simp [impl_OscRun.l0] at h⟩
 | k + 1 => by
  obtain ⟨ih0, ih1⟩ := impl_OscRun.mono_l k
  refine ⟨?_, ?_⟩
  ·intro y0 y1 y2 y3 y4 y5
   unfold impl_OscRun.j0
   repeat' first
   | (with_reducible exact ih0 _ _ _ _ _ _)
   | (with_reducible exact ih1 _ _ _ _ _ _ _ _ _)
   | (with_reducible exact impl_OscStep.mono _ _ _ _ _ _ _)
   | (with_reducible exact LeO.refl _)
   | (with_reducible exact LeO.none _)
   | (with_reducible refine LeO.ite ?_ ?_)
   | (with_reducible refine LeO.bind ?_ (fun _ => ?_))
   | exact ih0 _ _ _ _ _ _
   | exact ih1 _ _ _ _ _ _ _ _ _
   | exact impl_OscStep.mono _ _ _ _ _ _ _
   | exact LeO.none _
   | refine LeO.ite ?_ ?_
   | refine LeO.bind ?_ (fun _ => ?_)
  ·intro y0 y1 y2 y3 y4 y5 y6 y7 y8
   unfold impl_OscRun.l0
   repeat' first
   | (with_reducible exact ih0 _ _ _ _ _ _)
   | (with_reducible exact ih1 _ _ _ _ _ _ _ _ _)
   | (with_reducible exact impl_OscStep.mono _ _ _ _ _ _ _)
   | (with_reducible exact LeO.refl _)
   | (with_reducible exact LeO.none _)
   | (with_reducible refine LeO.ite ?_ ?_)
   | (with_reducible refine LeO.bind ?_ (fun _ => ?_))
   | exact ih0 _ _ _ _ _ _
   | exact ih1 _ _ _ _ _ _ _ _ _
   | exact impl_OscStep.mono _ _ _ _ _ _ _
   | exact LeO.none _
   | refine LeO.ite ?_ ?_
   | refine LeO.bind ?_ (fun _ => ?_)
theorem impl_OscRun.mono : ∀ a0 a1 a2 a3 a4 k, LeO (impl_OscRun.f k a0 a1 a2 a3 a4) (impl_OscRun.f (k + 1) a0 a1 a2 a3 a4) := by
 intro a0 a1 a2 a3 a4 k
 obtain ⟨ih0, ih1⟩ := impl_OscRun.mono_l k
 unfold impl_OscRun.f
 repeat' first
   | (with_reducible exact ih0 _ _ _ _ _ _)
   | (with_reducible exact ih1 _ _ _ _ _ _ _ _ _)
   | (with_reducible exact impl_OscStep.mono _ _ _ _ _ _ _)
   | (with_reducible exact LeO.refl _)
   | (with_reducible exact LeO.none _)
   | (with_reducible refine LeO.ite ?_ ?_)
   | (with_reducible refine LeO.bind ?_ (fun _ => ?_))
   | exact ih0 _ _ _ _ _ _
   | exact ih1 _ _ _ _ _ _ _ _ _
   | exact impl_OscStep.mono _ _ _ _ _ _ _
   | exact LeO.none _
   | refine LeO.ite ?_ ?_
   | refine LeO.bind ?_ (fun _ => ?_)
theorem impl_OscRun.calls (k : Nat) (a0_0 : Int) (a0_1 : Int) (a0_2 : Int) (a0_3 : Int) (A1 : Option Addr) (c1 : Nat) (l1 : List (S86)) (r1 : List (S38)) (r2 : Int) (w : World) (hr1 : Kd.C k86 w A1 l1.length l1) (hc1 : l1.length ≤ c1) (h : impl_OscRun.f k a0_0 a0_1 a0_2 a0_3 l1 = some (r1, r2)) :
  Calls Try.prog 33 #[.agg #[.int .i64 a0_0, .int .i64 a0_1, .int .i64 a0_2, .int .i64 a0_3], .slice A1 l1.length c1] w fun e w' => ∃ v0_ : Value, e = .returned (.tuple #[v0_, .int .i64 r2]) ∧ Kd.R k38 38 w' w.heap.size (fun _ => True) v0_ r1 ∧ Below w.heap.size w w' := by
 have hu54 := Try.underlying54
 have hu38 := Try.underlying38
 have hu86 := Try.underlying86
 have HR1 := zM hr1
 have HC1 := zM hc1
 clear hr1 hc1
 have HB := zM (Below.refl w.heap.size w)
 have H : ((impl_OscOk.f a0_0 a0_1 a0_2 a0_3).bind fun t296 => (if t296 = true then (impl_OscRun.j0 k l1 (decide ((l1.length : Int) > 200)) a0_0 a0_1 a0_2 a0_3) else (impl_OscRun.j0 k l1 true a0_0 a0_1 a0_2 a0_3))) = some (r1, r2) := h
 clear h
 have HC3 := zM H
 clear H
 go_enter Try.func33, Try.ntmps33
 go_upto_region 1 with (first | ((with_reducible refine gate_dst (N := 2) rfl ?_); (try (refine gate_guard (by rfl) ?_; dsimp only)); refine box_event ?hg (N := 2) ?hd (cs := #[.int .i64 a0_0, .int .i64 a0_1, .int .i64 a0_2, .int .i64 a0_3]) (t := 54) ?hr ?_; (case hd => rfl); (case hg => rfl); (case hr => first | (go_simp; done) | (go_simp; rfl)); intro gb295 hg w4 hbox hb; have n0_ := zM (bG (by repeat (first | (with_reducible first | exact HB.out | apply bE | apply bD | apply bF) | exact HB.out)) hb); have n1_ := zM (hbox); have n2_ := zM ((by rw [hg]; exact (below_size (by repeat (first | (with_reducible first | exact HB.out | apply bE | apply bD | apply bF) | exact HB.out))) : w.heap.size ≤ gb295)); have n3_ := zM ((by rw [hg]; exact (below_size (by repeat (first | (with_reducible first | exact HB.out | apply bE | apply bD | apply bF) | exact HB.out))) : w.heap.size ≤ gb295)); clear HB; have HB := n0_; have BK295 := n1_; have GW295 := n2_; have GE295 := n3_; clear n0_ n1_ n2_ n3_; clear hb hbox hg))
 (try simp only [Act.put, zS, z0, z1])
 go_cut [18] (fun v18 wc => ∃ (kq : Nat) (x18_2 : Bool), v18 = .bool x18_2 ∧ Aside0 (impl_OscRun.j0 kq l1 x18_2 a0_0 a0_1 a0_2 a0_3 = some (r1, r2)) ∧ Aside0 (kq ≤ k) ∧ Aside0 (wc.heap[gb295]? = some (.cells #[.int .i64 a0_0, .int .i64 a0_1, .int .i64 a0_2, .int .i64 a0_3] 54 (0, 0))) ∧ Aside0 (Below w.heap.size w wc))
 case first =>
  have H := HC3.out
  clear HC3
  replace H := zO H
  obtain ⟨t296, A50, H⟩ := H
  replace H : (if t296 = true then (impl_OscRun.j0 k l1 (decide ((l1.length : Int) > 200)) a0_0 a0_1 a0_2 a0_3) else (impl_OscRun.j0 k l1 true a0_0 a0_1 a0_2 a0_3)) = some (r1, r2) := H
  have A5 := zM A50
  clear A50
  by_cases c6 : t296 = true
  ·subst c6
   have H1 : (impl_OscRun.j0 k l1 (decide ((l1.length : Int) > 200)) a0_0 a0_1 a0_2 a0_3) = some (r1, r2) := by rw [if_pos rfl] at H; exact H
   clear H
   have H := H1
   clear H1
   have H' := zM H
   clear H
   have hcz7_0 : w4.cell? ⟨gb295, 0, none⟩ = some (.int .i64 a0_0) := (blk_cell BK295.out 0).trans rfl
   have hcz7_1 : w4.cell? ⟨gb295, 1, none⟩ = some (.int .i64 a0_1) := (blk_cell BK295.out 1).trans rfl
   have hcz7_2 : w4.cell? ⟨gb295, 2, none⟩ = some (.int .i64 a0_2) := (blk_cell BK295.out 2).trans rfl
   have hcz7_3 : w4.cell? ⟨gb295, 3, none⟩ = some (.int .i64 a0_3) := (blk_cell BK295.out 3).trans rfl
   have hfz7_0 := blk_frozen BK295.out 0
   have hfz7_1 := blk_frozen BK295.out 1
   have hfz7_2 := blk_frozen BK295.out 2
   have hfz7_3 := blk_frozen BK295.out 3
   go_wp2_with (first | ((with_reducible refine gate_callee (f := 41) rfl ?_); refine goesL_ (some 12) rfl rfl Try.func41 (by kernel_rfl) rfl #[.agg #[.int .i64 a0_0, .int .i64 a0_1, .int .i64 a0_2, .int .i64 a0_3]] rfl (by (try simp only [List.map_toArray, List.map_cons, List.map_nil]); first | done | rfl) ?_; (with_reducible refine (impl_OscOk.calls a0_0 a0_1 a0_2 a0_3 true _ A5.out).mono ?_); rintro e w8 ⟨rfl, hb⟩; refine ⟨_, rfl, ?_⟩; have n0_ := zM (blk_below (g := gb295) (o := .cells #[.int .i64 a0_0, .int .i64 a0_1, .int .i64 a0_2, .int .i64 a0_3] 54 (0, 0)) (by (with_reducible repeat (first | refine bA ?_ _ | refine bB ?_ | refine bC ?_ _)); exact BK295.out) hb); have n1_ := zM (bG (by repeat (first | (with_reducible first | exact HB.out | apply bE | apply bD | apply bF | refine below_set ?_ GE295.out) | exact HB.out)) hb); clear BK295; clear HB; have BK295 := n0_; have HB := n1_; clear n0_ n1_; (try clear hb); (try clear hk); (try clear hi)))
   go_meet
   case rel => exact ⟨_, (decide ((l1.length : Int) > 200)), (by first | rfl | (simp; done) | (simp [*]; done)), H', ⟨by first | omega | exact Nat.le_refl _⟩, ⟨by (with_reducible repeat (first | refine bA ?_ _ | refine bB ?_ | refine bC ?_ _)); exact BK295.out⟩, ⟨by repeat (first | (with_reducible first | exact HB.out | apply bE | apply bD | apply bF | refine below_set ?_ GE295.out) | exact HB.out)⟩⟩
  ·replace c6 := Bool.eq_false_iff.mpr c6
   subst c6
   have H1 : (impl_OscRun.j0 k l1 true a0_0 a0_1 a0_2 a0_3) = some (r1, r2) := by rw [if_neg (show ¬ (false = true) by decide)] at H; exact H
   clear H
   have H := H1
   clear H1
   have H' := zM H
   clear H
   have hcz9_0 : w4.cell? ⟨gb295, 0, none⟩ = some (.int .i64 a0_0) := (blk_cell BK295.out 0).trans rfl
   have hcz9_1 : w4.cell? ⟨gb295, 1, none⟩ = some (.int .i64 a0_1) := (blk_cell BK295.out 1).trans rfl
   have hcz9_2 : w4.cell? ⟨gb295, 2, none⟩ = some (.int .i64 a0_2) := (blk_cell BK295.out 2).trans rfl
   have hcz9_3 : w4.cell? ⟨gb295, 3, none⟩ = some (.int .i64 a0_3) := (blk_cell BK295.out 3).trans rfl
   have hfz9_0 := blk_frozen BK295.out 0
   have hfz9_1 := blk_frozen BK295.out 1
   have hfz9_2 := blk_frozen BK295.out 2
   have hfz9_3 := blk_frozen BK295.out 3
   go_wp2_with (first | ((with_reducible refine gate_callee (f := 41) rfl ?_); refine goesL_ (some 12) rfl rfl Try.func41 (by kernel_rfl) rfl #[.agg #[.int .i64 a0_0, .int .i64 a0_1, .int .i64 a0_2, .int .i64 a0_3]] rfl (by (try simp only [List.map_toArray, List.map_cons, List.map_nil]); first | done | rfl) ?_; (with_reducible refine (impl_OscOk.calls a0_0 a0_1 a0_2 a0_3 false _ A5.out).mono ?_); rintro e w10 ⟨rfl, hb⟩; refine ⟨_, rfl, ?_⟩; have n0_ := zM (blk_below (g := gb295) (o := .cells #[.int .i64 a0_0, .int .i64 a0_1, .int .i64 a0_2, .int .i64 a0_3] 54 (0, 0)) (by (with_reducible repeat (first | refine bA ?_ _ | refine bB ?_ | refine bC ?_ _)); exact BK295.out) hb); have n1_ := zM (bG (by repeat (first | (with_reducible first | exact HB.out | apply bE | apply bD | apply bF | refine below_set ?_ GE295.out) | exact HB.out)) hb); clear BK295; clear HB; have BK295 := n0_; have HB := n1_; clear n0_ n1_; (try clear hb); (try clear hk); (try clear hi)))
   go_meet
   case rel => exact ⟨_, (true), (by first | rfl | (simp; done) | (simp [*]; done)), H', ⟨by first | omega | exact Nat.le_refl _⟩, ⟨by (with_reducible repeat (first | refine bA ?_ _ | refine bB ?_ | refine bC ?_ _)); exact BK295.out⟩, ⟨by repeat (first | (with_reducible first | exact HB.out | apply bE | apply bD | apply bF | refine below_set ?_ GE295.out) | exact HB.out)⟩⟩
 case rest =>
  clear HC3
  try clear c1
  try clear p2
  try clear c3
  try clear c4
  try clear c6
  try clear hcz7_0
  try clear hcz7_1
  try clear hcz7_2
  try clear hcz7_3
  try clear hcz9_0
  try clear hcz9_1
  try clear hcz9_2
  try clear hcz9_3
  try clear hfz7_0
  try clear hfz7_1
  try clear hfz7_2
  try clear hfz7_3
  try clear hfz9_0
  try clear hfz9_1
  try clear hfz9_2
  try clear hfz9_3
  obtain ⟨kq, x18_2, rfl, HA, HJ2, BK295, HB⟩ := hcut
  cases kq with
  | zero => exact absurd HA.out (by simp [impl_OscRun.j0])
  | succ kj2 =>
   have H := HA.out
   clear HA
   simp only [impl_OscRun.j0] at H
   by_cases c11 : x18_2 = true
   ·subst c11
    have H1 : (some (([] : List (S38)), 0)) = some (r1, r2) := by rw [if_pos rfl] at H; exact H
    clear H
    have H := H1
    clear H1
    simp only [zI, zJ] at H
    obtain ⟨rfl, rfl⟩ := H
    go_wp2
    go_ret2
    exact ⟨_, by first | rfl | (simp [*, errW_none, errW_some] <;> rfl), by first | exact Kd.R_nil _ _ _ _ _ | exact Kd.N_nil _ _ _ _ _ | exact Kd.V_nil _ _ _ _ _ | exact Kd.Q_nil _ _ _ _ _ | exact Kd.S_nil _ _ _ _ _, by repeat (first | (with_reducible first | exact HB.out | apply bE | apply bD | apply bF | refine below_set ?_ GE295.out) | exact HB.out)⟩
   ·replace c11 := Bool.eq_false_iff.mpr c11
    subst c11
    have H1 : (impl_OscRun.l0 kj2 l1 (([(⟨a0_2, a0_3⟩ : S38)] : List (S38))) l1 (l1.length : Int) 0 a0_0 a0_1 a0_2 a0_3) = some (r1, r2) := by rw [if_neg (show ¬ (false = true) by decide)] at H; exact H
    clear H
    have H := H1
    clear H1
    obtain ⟨y297, hy297⟩ : ∃ y_ : List (S38), y_ = (([(⟨a0_2, a0_3⟩ : S38)] : List (S38))) := ⟨_, rfl⟩
    replace H : (impl_OscRun.l0 kj2 l1 y297 l1 (l1.length : Int) 0 a0_0 a0_1 a0_2 a0_3) = some (r1, r2) := by first | (rw [hy297]; with_reducible exact H) | (have H2_ := (Option.bind_some _ _).symm.trans H; rw [hy297]; with_reducible exact H2_) | (have H2_ := (Option.bind_some _ _).symm.trans H; with_reducible exact H2_) | with_reducible exact H | (rw [hy297]; exact H) | exact H
    have Ny297 := zM hy297
    clear hy297
    have H' := zM H
    clear H
    have hcz12_0 : wc.cell? ⟨gb295, 0, none⟩ = some (.int .i64 a0_0) := (blk_cell BK295.out 0).trans rfl
    have hcz12_1 : wc.cell? ⟨gb295, 1, none⟩ = some (.int .i64 a0_1) := (blk_cell BK295.out 1).trans rfl
    have hcz12_2 : wc.cell? ⟨gb295, 2, none⟩ = some (.int .i64 a0_2) := (blk_cell BK295.out 2).trans rfl
    have hcz12_3 : wc.cell? ⟨gb295, 3, none⟩ = some (.int .i64 a0_3) := (blk_cell BK295.out 3).trans rfl
    have hfz12_0 := blk_frozen BK295.out 0
    have hfz12_1 := blk_frozen BK295.out 1
    have hfz12_2 := blk_frozen BK295.out 2
    have hfz12_3 := blk_frozen BK295.out 3
    go_wp2_with (first | ((with_reducible refine gate_dst (N := 24) rfl ?_); (try (refine gate_guard (by rfl) ?_; dsimp only)); refine Kd.R_lit k38 _ 38 ?hg (N := 24) ?hd (xs := ([(⟨a0_2, a0_3⟩ : S38)] : List (S38))) (inner := [.int .i64 a0_2, .int .i64 a0_3]) (ok := fun _ => True) (okp := fun _ => True) ?hr ?hp (fun _ hk => hk) trivial (Below.refl _ _) (Nat.le_refl _) (by simp) ?_; (case hd => rfl); (case hg => rfl); (case hr => first | (go_simp; done) | (go_simp; rfl)); (case hp => exact (Reps.c2 (show Kd.M k38 _ _ _ (⟨a0_2, a0_3⟩ : S38) [.int .i64 a0_2, .int .i64 a0_3] from (k38_mkM _ _ _ (⟨a0_2, a0_3⟩ : S38) )) (Reps.none _ _))); intro v298 w13 ho14 hb hg_ hnew_; clear hg_ hnew_; (first | rw [← Ny297.out] at ho14 | (simp only [Int.reduceToNat] at ho14; rw [← Ny297.out] at ho14)); have n0_ := zM (Kd.R_lower ho14 (below_size (by repeat (first | (with_reducible first | exact HB.out | apply bE | apply bD | apply bF | refine below_set ?_ GE295.out) | exact HB.out)))); have n1_ := zM (blk_below (g := gb295) (o := .cells #[.int .i64 a0_0, .int .i64 a0_1, .int .i64 a0_2, .int .i64 a0_3] 54 (0, 0)) (by (with_reducible repeat (first | refine bA ?_ _ | refine bB ?_ | refine bC ?_ _)); exact BK295.out) hb); have n2_ := zM (bG (by repeat (first | (with_reducible first | exact HB.out | apply bE | apply bD | apply bF | refine below_set ?_ GE295.out) | exact HB.out)) hb); clear BK295; clear HB; have HO299 := n0_; have BK295 := n1_; have HB := n2_; clear n0_ n1_ n2_; clear hb ho14))
    go_loopg [6, 27] kj2 (fun kq v6 v27 w' => ∃ (x6_2 : List (S38)) (x27_2 : Int) (x296000_2 : Int) (x296001_2 : Int) (x296002_2 : Int) (x296003_2 : Int), v27 = .int .i64 x27_2 ∧ Aside0 (impl_OscRun.l0 kq l1 x6_2 l1 (l1.length : Int) x27_2 x296000_2 x296001_2 x296002_2 x296003_2 = some (r1, r2)) ∧ Aside0 (kq ≤ kj2) ∧ Aside0 (Kd.R k38 38 w' w.heap.size (fun _ => True) v6 x6_2) ∧ Aside0 (w'.heap[gb295]? = some (.cells #[.int .i64 x296000_2, .int .i64 x296001_2, .int .i64 x296002_2, .int .i64 x296003_2] 54 (0, 0))) ∧ Aside0 (Below w.heap.size w w'))
    case atStart => exact ⟨(y297), (0), (a0_0), (a0_1), (a0_2), (a0_3), (by first | rfl | (simp; done) | (simp [*]; done)), H', ⟨Nat.le_refl _⟩, ⟨by (with_reducible repeat (first | apply Kd.R_alloc | apply Kd.R_drewN | apply Kd.R_drew)); exact HO299.out⟩, ⟨by (with_reducible repeat (first | refine bA ?_ _ | refine bB ?_ | refine bC ?_ _)); exact BK295.out⟩, ⟨by repeat (first | (with_reducible first | exact HB.out | apply bE | apply bD | apply bF | refine below_set ?_ GE295.out) | exact HB.out)⟩⟩
    case round =>
     clear H'
     try clear c1
     try clear c2
     try clear p2
     try clear c3
     try clear c4
     try clear c6
     try clear c11
     try clear hcz12_0
     try clear hcz12_1
     try clear hcz12_2
     try clear hcz12_3
     try clear hcz7_0
     try clear hcz7_1
     try clear hcz7_2
     try clear hcz7_3
     try clear hcz9_0
     try clear hcz9_1
     try clear hcz9_2
     try clear hcz9_3
     try clear hfz12_0
     try clear hfz12_1
     try clear hfz12_2
     try clear hfz12_3
     try clear hfz7_0
     try clear hfz7_1
     try clear hfz7_2
     try clear hfz7_3
     try clear hfz9_0
     try clear hfz9_1
     try clear hfz9_2
     try clear hfz9_3
     try clear p2
     obtain ⟨x6_2, x27_2, x296000_2, x296001_2, x296002_2, x296003_2, rfl, HA, HK2, HO_6, BK295, HB⟩ := hrel
     cases gk with
     | zero => exact absurd HA.out (by simp [impl_OscRun.l0])
     | succ k2 =>
      have H := HA.out
      clear HA
      simp only [impl_OscRun.l0] at H
      by_cases c15 : x27_2 < (l1.length : Int)
      ·rw [if_pos c15] at H
       have c15b0 : decide (x27_2 < (l1.length : Int)) = true := decide_eq_true c15
       clear c15
       by_cases c16 : 0 ≤ x27_2
       ·rw [if_pos c16] at H
        have c16b0 : decide (0 ≤ x27_2) = true := decide_eq_true c16
        clear c16
        by_cases c17 : x27_2 < (l1.length : Int)
        ·rw [if_pos c17] at H
         have c17b0 : decide (x27_2 < (l1.length : Int)) = true := decide_eq_true c17
         clear c17
         replace H := zO H
         obtain ⟨⟨t302, t303, t304, t305, t306⟩, A180, H⟩ := H
         replace H : (if t306 = true then (if x6_2.length < 8796093022208 then (impl_OscRun.l0 k2 l1 (x6_2 ++ [(⟨t304, t305⟩ : S38)]) l1 (l1.length : Int) (wrap64 (x27_2 + 1)) t302 t303 t304 t305) else (none)) else (some (x6_2, x27_2))) = some (r1, r2) := H
         have A18 := zM A180
         clear A180
         by_cases c19 : t306 = true
         ·subst c19
          have H1 : (if x6_2.length < 8796093022208 then (impl_OscRun.l0 k2 l1 (x6_2 ++ [(⟨t304, t305⟩ : S38)]) l1 (l1.length : Int) (wrap64 (x27_2 + 1)) t302 t303 t304 t305) else (none)) = some (r1, r2) := by rw [if_pos rfl] at H; exact H
          clear H
          have H := H1
          clear H1
          by_cases c20 : x6_2.length < 8796093022208
          ·rw [if_pos c20] at H
           have LMc20 := zM c20
           clear c20
           obtain ⟨y308, hy308⟩ : ∃ y_ : List (S38), y_ = (x6_2 ++ [(⟨t304, t305⟩ : S38)]) := ⟨_, rfl⟩
           replace H : (impl_OscRun.l0 k2 l1 y308 l1 (l1.length : Int) (wrap64 (x27_2 + 1)) t302 t303 t304 t305) = some (r1, r2) := by first | (rw [hy308]; with_reducible exact H) | (have H2_ := (Option.bind_some _ _).symm.trans H; rw [hy308]; with_reducible exact H2_) | (have H2_ := (Option.bind_some _ _).symm.trans H; with_reducible exact H2_) | with_reducible exact H | (rw [hy308]; exact H) | exact H
           have Ny308 := zM hy308
           clear hy308
           have H' := zM H
           clear H
           have p300 : 0 ≤ (x27_2 : Int) := of_decide_eq_true (by first | (with_reducible assumption) | assumption)
           have q300 : x27_2 < (l1.length : Int) := of_decide_eq_true (by first | (with_reducible assumption) | assumption)
           obtain ⟨ad300, e300, hx300_0, hx300_1⟩ := at_T86 HR1.out x27_2 p300 q300
           cases e300
           replace hx300_0 := (HB.out.cell (World.block_lt_of_cell? w _ hx300_0)).trans hx300_0
           replace hx300_1 := (HB.out.cell (World.block_lt_of_cell? w _ hx300_1)).trans hx300_1
           replace p300 := eq_true p300
           replace q300 := eq_true q300
           go_wp2_with (first | ((with_reducible refine gate_dst (N := 8) rfl ?_); (try (refine gate_guard (by rfl) ?_; dsimp only)); refine box_event ?hg (N := 8) ?hd (cs := #[.int .i64 0, .int .i64 0]) (t := 86) ?hr ?_; (case hd => rfl); (case hg => rfl); (case hr => first | (go_simp; done) | (go_simp; rfl)); intro gb301 hg w21 hbox hb; have n0_ := zM (Kd.R_below (by (with_reducible repeat (first | apply Kd.R_alloc | apply Kd.R_drewN | apply Kd.R_drew)); exact HO_6.out) hb); have n1_ := zM (blk_below (g := gb295) (o := .cells #[.int .i64 x296000_2, .int .i64 x296001_2, .int .i64 x296002_2, .int .i64 x296003_2] 54 (0, 0)) (by (with_reducible repeat (first | refine bA ?_ _ | refine bB ?_ | refine bC ?_ _)); exact BK295.out) hb); have n2_ := zM (bG (by repeat (first | (with_reducible first | exact HB.out | apply bE | apply bD | apply bF | refine below_set ?_ GE295.out) | exact HB.out)) hb); have n3_ := zM (hbox); have n4_ := zM ((by rw [hg]; exact (below_size (by repeat (first | (with_reducible first | exact HB.out | apply bE | apply bD | apply bF | refine below_set ?_ GE295.out) | exact HB.out))) : w.heap.size ≤ gb301)); have n5_ := zM ((by rw [hg]; exact (below_size (by repeat (first | (with_reducible first | exact HB.out | apply bE | apply bD | apply bF | refine below_set ?_ GE295.out) | exact HB.out))) : w.heap.size ≤ gb301)); have n6_ := zM ((by rw [hg]; exact Nat.ne_of_lt (blk_lt (g := gb295) (o := .cells #[.int .i64 x296000_2, .int .i64 x296001_2, .int .i64 x296002_2, .int .i64 x296003_2] 54 (0, 0)) (by (with_reducible repeat (first | refine bA ?_ _ | refine bB ?_ | refine bC ?_ _)); exact BK295.out)) : gb295 ≠ gb301)); have n7_ := zM ((by rw [hg]; exact Nat.ne_of_gt (blk_lt (g := gb295) (o := .cells #[.int .i64 x296000_2, .int .i64 x296001_2, .int .i64 x296002_2, .int .i64 x296003_2] 54 (0, 0)) (by (with_reducible repeat (first | refine bA ?_ _ | refine bB ?_ | refine bC ?_ _)); exact BK295.out)) : gb301 ≠ gb295)); clear HO_6; clear BK295; clear HB; have HO_6 := n0_; have BK295 := n1_; have HB := n2_; have BK301 := n3_; have GW301 := n4_; have GE301 := n5_; have NB295_301 := n6_; have NB301_295 := n7_; clear n0_ n1_ n2_ n3_ n4_ n5_ n6_ n7_; clear hb hbox hg; have hnb22 := NB301_295.out; have hnc22 := NB295_301.out; have hcz23_0 : w21.cell? ⟨gb301, 0, none⟩ = some (.int .i64 0) := (blk_cell BK301.out 0).trans rfl; have hcz23_1 : w21.cell? ⟨gb301, 1, none⟩ = some (.int .i64 0) := (blk_cell BK301.out 1).trans rfl; have hfz23_0 := blk_frozen BK301.out 0; have hfz23_1 := blk_frozen BK301.out 1; have hcz24_0 : w21.cell? ⟨gb295, 0, none⟩ = some (.int .i64 x296000_2) := (blk_cell BK295.out 0).trans rfl; have hcz24_1 : w21.cell? ⟨gb295, 1, none⟩ = some (.int .i64 x296001_2) := (blk_cell BK295.out 1).trans rfl; have hcz24_2 : w21.cell? ⟨gb295, 2, none⟩ = some (.int .i64 x296002_2) := (blk_cell BK295.out 2).trans rfl; have hcz24_3 : w21.cell? ⟨gb295, 3, none⟩ = some (.int .i64 x296003_2) := (blk_cell BK295.out 3).trans rfl; have hfz24_0 := blk_frozen BK295.out 0; have hfz24_1 := blk_frozen BK295.out 1; have hfz24_2 := blk_frozen BK295.out 2; have hfz24_3 := blk_frozen BK295.out 3) | ((with_reducible refine gate_callee (f := 68) rfl ?_); refine goesL_ (some 35) rfl rfl Try.func68 (by kernel_rfl) rfl #[.agg #[.int .i64 x296000_2, .int .i64 x296001_2, .int .i64 x296002_2, .int .i64 x296003_2], .agg #[.int .i64 ((rd_T86 l1 x27_2).f0), .int .i64 ((rd_T86 l1 x27_2).f1)]] rfl (by (try simp only [List.map_toArray, List.map_cons, List.map_nil]); first | done | rfl) ?_; (with_reducible refine (impl_OscStep.calls k2 x296000_2 x296001_2 x296002_2 x296003_2 ((rd_T86 l1 x27_2).f0) ((rd_T86 l1 x27_2).f1) t302 t303 t304 t305 true _ A18.out).mono ?_); rintro e w25 ⟨rfl, hb⟩; refine ⟨_, rfl, ?_⟩; have n0_ := zM (Kd.R_below (by (with_reducible repeat (first | apply Kd.R_alloc | apply Kd.R_drewN | apply Kd.R_drew)); exact (Kd.R_mono (Kd.R_far (p := ⟨gb301, 1, none⟩) (Kd.R_far (p := ⟨gb301, 0, none⟩) (Kd.R_types HO_6.out BK301.out (by decide)) (fun _ hk => hk.2) (.int .i64 ((rd_T86 l1 x27_2).f0))) (fun _ hk => hk.2) (.int .i64 ((rd_T86 l1 x27_2).f1))) (fun _ h_ => h_.1))) hb); have n1_ := zM (blk_below (g := gb295) (o := .cells #[.int .i64 x296000_2, .int .i64 x296001_2, .int .i64 x296002_2, .int .i64 x296003_2] 54 (0, 0)) (by (with_reducible repeat (first | refine bA ?_ _ | refine bB ?_ | refine bC ?_ _)); refine blk_far ?_ NB295_301.out _; (with_reducible repeat (first | refine bA ?_ _ | refine bB ?_ | refine bC ?_ _)); refine blk_far ?_ NB295_301.out _; (with_reducible repeat (first | refine bA ?_ _ | refine bB ?_ | refine bC ?_ _)); exact BK295.out) hb); have n2_ := zM (blk_below (g := gb301) (o := .cells #[.int .i64 ((rd_T86 l1 x27_2).f0), .int .i64 ((rd_T86 l1 x27_2).f1)] 86 (0, 0)) (by (with_reducible repeat (first | refine bA ?_ _ | refine bB ?_ | refine bC ?_ _)); refine bH (cs := #[.int .i64 ((rd_T86 l1 x27_2).f0), .int .i64 0]) ?_ 1 _ rfl; (with_reducible repeat (first | refine bA ?_ _ | refine bB ?_ | refine bC ?_ _)); refine bH (cs := #[.int .i64 0, .int .i64 0]) ?_ 0 _ rfl; (with_reducible repeat (first | refine bA ?_ _ | refine bB ?_ | refine bC ?_ _)); exact BK301.out) hb); have n3_ := zM (bG (by repeat (first | (with_reducible first | exact HB.out | apply bE | apply bD | apply bF | refine below_set ?_ GE295.out | refine below_set ?_ GE301.out) | exact HB.out)) hb); clear HO_6; clear BK295; clear BK301; clear HB; have HO_6 := n0_; have BK295 := n1_; have BK301 := n2_; have HB := n3_; clear n0_ n1_ n2_ n3_; (try clear hb); (try clear hk); (try clear hi)) | ((with_reducible refine gate_dst (N := 9) rfl ?_); (try (refine gate_guard (by rfl) ?_; dsimp only)); refine box_event ?hg (N := 9) ?hd (cs := #[.int .i64 0, .int .i64 0, .int .i64 0, .int .i64 0]) (t := 54) ?hr ?_; (case hd => rfl); (case hg => rfl); (case hr => first | (go_simp; done) | (go_simp; rfl)); intro gb307 hg w26 hbox hb; have n0_ := zM (Kd.R_below (by (with_reducible repeat (first | apply Kd.R_alloc | apply Kd.R_drewN | apply Kd.R_drew)); exact HO_6.out) hb); have n1_ := zM (blk_below (g := gb295) (o := .cells #[.int .i64 x296000_2, .int .i64 x296001_2, .int .i64 x296002_2, .int .i64 x296003_2] 54 (0, 0)) (by (with_reducible repeat (first | refine bA ?_ _ | refine bB ?_ | refine bC ?_ _)); exact BK295.out) hb); have n2_ := zM (blk_below (g := gb301) (o := .cells #[.int .i64 ((rd_T86 l1 x27_2).f0), .int .i64 ((rd_T86 l1 x27_2).f1)] 86 (0, 0)) (by (with_reducible repeat (first | refine bA ?_ _ | refine bB ?_ | refine bC ?_ _)); exact BK301.out) hb); have n3_ := zM (bG (by repeat (first | (with_reducible first | exact HB.out | apply bE | apply bD | apply bF | refine below_set ?_ GE295.out | refine below_set ?_ GE301.out) | exact HB.out)) hb); have n4_ := zM (hbox); have n5_ := zM ((by rw [hg]; exact (below_size (by repeat (first | (with_reducible first | exact HB.out | apply bE | apply bD | apply bF | refine below_set ?_ GE295.out | refine below_set ?_ GE301.out) | exact HB.out))) : w.heap.size ≤ gb307)); have n6_ := zM ((by rw [hg]; exact (below_size (by repeat (first | (with_reducible first | exact HB.out | apply bE | apply bD | apply bF | refine below_set ?_ GE295.out | refine below_set ?_ GE301.out) | exact HB.out))) : w.heap.size ≤ gb307)); have n7_ := zM ((by rw [hg]; exact Nat.ne_of_lt (blk_lt (g := gb295) (o := .cells #[.int .i64 x296000_2, .int .i64 x296001_2, .int .i64 x296002_2, .int .i64 x296003_2] 54 (0, 0)) (by (with_reducible repeat (first | refine bA ?_ _ | refine bB ?_ | refine bC ?_ _)); exact BK295.out)) : gb295 ≠ gb307)); have n8_ := zM ((by rw [hg]; exact Nat.ne_of_gt (blk_lt (g := gb295) (o := .cells #[.int .i64 x296000_2, .int .i64 x296001_2, .int .i64 x296002_2, .int .i64 x296003_2] 54 (0, 0)) (by (with_reducible repeat (first | refine bA ?_ _ | refine bB ?_ | refine bC ?_ _)); exact BK295.out)) : gb307 ≠ gb295)); have n9_ := zM ((by rw [hg]; exact Nat.ne_of_lt (blk_lt (g := gb301) (o := .cells #[.int .i64 ((rd_T86 l1 x27_2).f0), .int .i64 ((rd_T86 l1 x27_2).f1)] 86 (0, 0)) (by (with_reducible repeat (first | refine bA ?_ _ | refine bB ?_ | refine bC ?_ _)); exact BK301.out)) : gb301 ≠ gb307)); have n10_ := zM ((by rw [hg]; exact Nat.ne_of_gt (blk_lt (g := gb301) (o := .cells #[.int .i64 ((rd_T86 l1 x27_2).f0), .int .i64 ((rd_T86 l1 x27_2).f1)] 86 (0, 0)) (by (with_reducible repeat (first | refine bA ?_ _ | refine bB ?_ | refine bC ?_ _)); exact BK301.out)) : gb307 ≠ gb301)); clear HO_6; clear BK295; clear BK301; clear HB; have HO_6 := n0_; have BK295 := n1_; have BK301 := n2_; have HB := n3_; have BK307 := n4_; have GW307 := n5_; have GE307 := n6_; have NB295_307 := n7_; have NB307_295 := n8_; have NB301_307 := n9_; have NB307_301 := n10_; clear n0_ n1_ n2_ n3_ n4_ n5_ n6_ n7_ n8_ n9_ n10_; clear hb hbox hg; have hnb27 := NB307_295.out; have hnc27 := NB295_307.out; have hnb28 := NB307_301.out; have hnc28 := NB301_307.out; have hcz29_0 : w26.cell? ⟨gb307, 0, none⟩ = some (.int .i64 0) := (blk_cell BK307.out 0).trans rfl; have hcz29_1 : w26.cell? ⟨gb307, 1, none⟩ = some (.int .i64 0) := (blk_cell BK307.out 1).trans rfl; have hcz29_2 : w26.cell? ⟨gb307, 2, none⟩ = some (.int .i64 0) := (blk_cell BK307.out 2).trans rfl; have hcz29_3 : w26.cell? ⟨gb307, 3, none⟩ = some (.int .i64 0) := (blk_cell BK307.out 3).trans rfl; have hfz29_0 := blk_frozen BK307.out 0; have hfz29_1 := blk_frozen BK307.out 1; have hfz29_2 := blk_frozen BK307.out 2; have hfz29_3 := blk_frozen BK307.out 3; have hcz30_0 : w26.cell? ⟨gb295, 0, none⟩ = some (.int .i64 x296000_2) := (blk_cell BK295.out 0).trans rfl; have hcz30_1 : w26.cell? ⟨gb295, 1, none⟩ = some (.int .i64 x296001_2) := (blk_cell BK295.out 1).trans rfl; have hcz30_2 : w26.cell? ⟨gb295, 2, none⟩ = some (.int .i64 x296002_2) := (blk_cell BK295.out 2).trans rfl; have hcz30_3 : w26.cell? ⟨gb295, 3, none⟩ = some (.int .i64 x296003_2) := (blk_cell BK295.out 3).trans rfl; have hfz30_0 := blk_frozen BK295.out 0; have hfz30_1 := blk_frozen BK295.out 1; have hfz30_2 := blk_frozen BK295.out 2; have hfz30_3 := blk_frozen BK295.out 3) | ((with_reducible refine gate_builtin (b := .append) (xs := #[.tmp 43, .tmp 49]) rfl ?_); (try (refine gate_guard (by rfl) ?_; dsimp only)); at_builtin; refine Kd.R_append k38 (w0 := w) w.heap.size rfl (.tmp 43) (.tmp 49) 29 38 (.agg #[(.int .i64 0), (.int .i64 0)]) 16 rfl Try.underlying29 info38 rfl (by decide) (by omega) u6 x6_2 (⟨t304, t305⟩ : S38) [.int .i64 t304, .int .i64 t305] (fun _ => True) (fun _ => False) rfl (by first | (go_simp; done) | (go_simp; rfl)) ?aP (fun _ hk => hk.elim) ?aF ?aO ?aB ?aS ?aL ?_; (case aP => exact k38_mkM _ _ _ (⟨t304, t305⟩ : S38)); (case aB => exact (by repeat (first | (with_reducible first | exact HB.out | apply bE | apply bD | apply bF | refine below_set ?_ GE295.out | refine below_set ?_ GE301.out | refine below_set ?_ GE307.out) | exact HB.out))); (case aF => exact (fun _ _ => trivial)); (case aO => exact (by (with_reducible repeat (first | apply Kd.R_alloc | apply Kd.R_drewN | apply Kd.R_drew)); exact Kd.R_mono (Kd.R_far (p := ⟨gb295, 3, none⟩) (Kd.R_far (p := ⟨gb295, 2, none⟩) (Kd.R_far (p := ⟨gb295, 1, none⟩) (Kd.R_far (p := ⟨gb295, 0, none⟩) (Kd.R_far (p := ⟨gb307, 3, none⟩) (Kd.R_far (p := ⟨gb307, 2, none⟩) (Kd.R_far (p := ⟨gb307, 1, none⟩) (Kd.R_far (p := ⟨gb307, 0, none⟩) (Kd.R_types (Kd.R_types HO_6.out BK307.out (by decide)) BK295.out (by decide)) (fun _ hk => hk.1.2) (.int .i64 t302)) (fun _ hk => hk.1.2) (.int .i64 t303)) (fun _ hk => hk.1.2) (.int .i64 t304)) (fun _ hk => hk.1.2) (.int .i64 t305)) (fun _ hk => hk.2) (.int .i64 t302)) (fun _ hk => hk.2) (.int .i64 t303)) (fun _ hk => hk.2) (.int .i64 t304)) (fun _ hk => hk.2) (.int .i64 t305)) (fun _ hk => trivial))); (case aS => exact (below_size (by repeat (first | (with_reducible first | exact HB.out | apply bE | apply bD | apply bF | refine below_set ?_ GE295.out | refine below_set ?_ GE301.out | refine below_set ?_ GE307.out) | exact HB.out)))); (case aL => have := LMc20.out; omega); intro v309 w31 ho hb hg hat; rw [← Ny308.out] at ho; have n0_ := zM (blk_grown (g := gb295) (o := .cells #[.int .i64 t302, .int .i64 t303, .int .i64 t304, .int .i64 t305] 54 (0, 0)) (by (with_reducible repeat (first | refine bA ?_ _ | refine bB ?_ | refine bC ?_ _)); refine bH (cs := #[.int .i64 t302, .int .i64 t303, .int .i64 t304, .int .i64 x296003_2]) ?_ 3 _ rfl; (with_reducible repeat (first | refine bA ?_ _ | refine bB ?_ | refine bC ?_ _)); refine bH (cs := #[.int .i64 t302, .int .i64 t303, .int .i64 x296002_2, .int .i64 x296003_2]) ?_ 2 _ rfl; (with_reducible repeat (first | refine bA ?_ _ | refine bB ?_ | refine bC ?_ _)); refine bH (cs := #[.int .i64 t302, .int .i64 x296001_2, .int .i64 x296002_2, .int .i64 x296003_2]) ?_ 1 _ rfl; (with_reducible repeat (first | refine bA ?_ _ | refine bB ?_ | refine bC ?_ _)); refine bH (cs := #[.int .i64 x296000_2, .int .i64 x296001_2, .int .i64 x296002_2, .int .i64 x296003_2]) ?_ 0 _ rfl; (with_reducible repeat (first | refine bA ?_ _ | refine bB ?_ | refine bC ?_ _)); refine blk_far ?_ NB295_307.out _; (with_reducible repeat (first | refine bA ?_ _ | refine bB ?_ | refine bC ?_ _)); refine blk_far ?_ NB295_307.out _; (with_reducible repeat (first | refine bA ?_ _ | refine bB ?_ | refine bC ?_ _)); refine blk_far ?_ NB295_307.out _; (with_reducible repeat (first | refine bA ?_ _ | refine bB ?_ | refine bC ?_ _)); refine blk_far ?_ NB295_307.out _; (with_reducible repeat (first | refine bA ?_ _ | refine bB ?_ | refine bC ?_ _)); exact BK295.out) hg (Kd.R_ne HO_6.out BK295.out (by decide))); have n1_ := zM (blk_grown (g := gb301) (o := .cells #[.int .i64 ((rd_T86 l1 x27_2).f0), .int .i64 ((rd_T86 l1 x27_2).f1)] 86 (0, 0)) (by (with_reducible repeat (first | refine bA ?_ _ | refine bB ?_ | refine bC ?_ _)); refine blk_far ?_ NB301_295.out _; (with_reducible repeat (first | refine bA ?_ _ | refine bB ?_ | refine bC ?_ _)); refine blk_far ?_ NB301_295.out _; (with_reducible repeat (first | refine bA ?_ _ | refine bB ?_ | refine bC ?_ _)); refine blk_far ?_ NB301_295.out _; (with_reducible repeat (first | refine bA ?_ _ | refine bB ?_ | refine bC ?_ _)); refine blk_far ?_ NB301_295.out _; (with_reducible repeat (first | refine bA ?_ _ | refine bB ?_ | refine bC ?_ _)); refine blk_far ?_ NB301_307.out _; (with_reducible repeat (first | refine bA ?_ _ | refine bB ?_ | refine bC ?_ _)); refine blk_far ?_ NB301_307.out _; (with_reducible repeat (first | refine bA ?_ _ | refine bB ?_ | refine bC ?_ _)); refine blk_far ?_ NB301_307.out _; (with_reducible repeat (first | refine bA ?_ _ | refine bB ?_ | refine bC ?_ _)); refine blk_far ?_ NB301_307.out _; (with_reducible repeat (first | refine bA ?_ _ | refine bB ?_ | refine bC ?_ _)); exact BK301.out) hg (Kd.R_ne HO_6.out BK301.out (by decide))); have n2_ := zM (blk_grown (g := gb307) (o := .cells #[.int .i64 t302, .int .i64 t303, .int .i64 t304, .int .i64 t305] 54 (0, 0)) (by (with_reducible repeat (first | refine bA ?_ _ | refine bB ?_ | refine bC ?_ _)); refine blk_far ?_ NB307_295.out _; (with_reducible repeat (first | refine bA ?_ _ | refine bB ?_ | refine bC ?_ _)); refine blk_far ?_ NB307_295.out _; (with_reducible repeat (first | refine bA ?_ _ | refine bB ?_ | refine bC ?_ _)); refine blk_far ?_ NB307_295.out _; (with_reducible repeat (first | refine bA ?_ _ | refine bB ?_ | refine bC ?_ _)); refine blk_far ?_ NB307_295.out _; (with_reducible repeat (first | refine bA ?_ _ | refine bB ?_ | refine bC ?_ _)); refine bH (cs := #[.int .i64 t302, .int .i64 t303, .int .i64 t304, .int .i64 0]) ?_ 3 _ rfl; (with_reducible repeat (first | refine bA ?_ _ | refine bB ?_ | refine bC ?_ _)); refine bH (cs := #[.int .i64 t302, .int .i64 t303, .int .i64 0, .int .i64 0]) ?_ 2 _ rfl; (with_reducible repeat (first | refine bA ?_ _ | refine bB ?_ | refine bC ?_ _)); refine bH (cs := #[.int .i64 t302, .int .i64 0, .int .i64 0, .int .i64 0]) ?_ 1 _ rfl; (with_reducible repeat (first | refine bA ?_ _ | refine bB ?_ | refine bC ?_ _)); refine bH (cs := #[.int .i64 0, .int .i64 0, .int .i64 0, .int .i64 0]) ?_ 0 _ rfl; (with_reducible repeat (first | refine bA ?_ _ | refine bB ?_ | refine bC ?_ _)); exact BK307.out) hg (Kd.R_ne HO_6.out BK307.out (by decide))); have n3_ := zM (hb); have n4_ := zM (ho); clear BK295; clear BK301; clear BK307; clear HB; clear HO_6; have BK295 := n0_; have BK301 := n1_; have BK307 := n2_; have HB := n3_; have HO310 := n4_; clear n0_ n1_ n2_ n3_ n4_; clear ho hb hg hat))
           go_roundg k2
           case measure => have := HJ2.out; have := HK2.out; omega
           case rel => exact ⟨(y308), (wrap64 (x27_2 + 1)), (t302), (t303), (t304), (t305), (by first | rfl | (simp; done) | (simp [*]; done)), H', ⟨by have := HJ2.out; have := HK2.out; omega⟩, ⟨by (with_reducible repeat (first | apply Kd.R_alloc | apply Kd.R_drewN | apply Kd.R_drew)); exact HO310.out⟩, ⟨by (with_reducible repeat (first | refine bA ?_ _ | refine bB ?_ | refine bC ?_ _)); exact BK295.out⟩, ⟨by repeat (first | (with_reducible first | exact HB.out | apply bE | apply bD | apply bF | refine below_set ?_ GE295.out | refine below_set ?_ GE301.out | refine below_set ?_ GE307.out) | exact HB.out)⟩⟩
          ·rw [if_neg c20] at H
           exact absurd H (by simp)
         ·replace c19 := Bool.eq_false_iff.mpr c19
          subst c19
          have H1 : (some (x6_2, x27_2)) = some (r1, r2) := by rw [if_neg (show ¬ (false = true) by decide)] at H; exact H
          clear H
          have H := H1
          clear H1
          simp only [zI, zJ] at H
          obtain ⟨rfl, rfl⟩ := H
          have p300 : 0 ≤ (x27_2 : Int) := of_decide_eq_true (by first | (with_reducible assumption) | assumption)
          have q300 : x27_2 < (l1.length : Int) := of_decide_eq_true (by first | (with_reducible assumption) | assumption)
          obtain ⟨ad300, e300, hx300_0, hx300_1⟩ := at_T86 HR1.out x27_2 p300 q300
          cases e300
          replace hx300_0 := (HB.out.cell (World.block_lt_of_cell? w _ hx300_0)).trans hx300_0
          replace hx300_1 := (HB.out.cell (World.block_lt_of_cell? w _ hx300_1)).trans hx300_1
          replace p300 := eq_true p300
          replace q300 := eq_true q300
          go_wp2_with (first | ((with_reducible refine gate_dst (N := 8) rfl ?_); (try (refine gate_guard (by rfl) ?_; dsimp only)); refine box_event ?hg (N := 8) ?hd (cs := #[.int .i64 0, .int .i64 0]) (t := 86) ?hr ?_; (case hd => rfl); (case hg => rfl); (case hr => first | (go_simp; done) | (go_simp; rfl)); intro gb301 hg w32 hbox hb; have n0_ := zM (Kd.R_below (by (with_reducible repeat (first | apply Kd.R_alloc | apply Kd.R_drewN | apply Kd.R_drew)); exact HO_6.out) hb); have n1_ := zM (blk_below (g := gb295) (o := .cells #[.int .i64 x296000_2, .int .i64 x296001_2, .int .i64 x296002_2, .int .i64 x296003_2] 54 (0, 0)) (by (with_reducible repeat (first | refine bA ?_ _ | refine bB ?_ | refine bC ?_ _)); exact BK295.out) hb); have n2_ := zM (bG (by repeat (first | (with_reducible first | exact HB.out | apply bE | apply bD | apply bF | refine below_set ?_ GE295.out) | exact HB.out)) hb); have n3_ := zM (hbox); have n4_ := zM ((by rw [hg]; exact (below_size (by repeat (first | (with_reducible first | exact HB.out | apply bE | apply bD | apply bF | refine below_set ?_ GE295.out) | exact HB.out))) : w.heap.size ≤ gb301)); have n5_ := zM ((by rw [hg]; exact (below_size (by repeat (first | (with_reducible first | exact HB.out | apply bE | apply bD | apply bF | refine below_set ?_ GE295.out) | exact HB.out))) : w.heap.size ≤ gb301)); have n6_ := zM ((by rw [hg]; exact Nat.ne_of_lt (blk_lt (g := gb295) (o := .cells #[.int .i64 x296000_2, .int .i64 x296001_2, .int .i64 x296002_2, .int .i64 x296003_2] 54 (0, 0)) (by (with_reducible repeat (first | refine bA ?_ _ | refine bB ?_ | refine bC ?_ _)); exact BK295.out)) : gb295 ≠ gb301)); have n7_ := zM ((by rw [hg]; exact Nat.ne_of_gt (blk_lt (g := gb295) (o := .cells #[.int .i64 x296000_2, .int .i64 x296001_2, .int .i64 x296002_2, .int .i64 x296003_2] 54 (0, 0)) (by (with_reducible repeat (first | refine bA ?_ _ | refine bB ?_ | refine bC ?_ _)); exact BK295.out)) : gb301 ≠ gb295)); clear HO_6; clear BK295; clear HB; have HO_6 := n0_; have BK295 := n1_; have HB := n2_; have BK301 := n3_; have GW301 := n4_; have GE301 := n5_; have NB295_301 := n6_; have NB301_295 := n7_; clear n0_ n1_ n2_ n3_ n4_ n5_ n6_ n7_; clear hb hbox hg; have hnb33 := NB301_295.out; have hnc33 := NB295_301.out; have hcz34_0 : w32.cell? ⟨gb301, 0, none⟩ = some (.int .i64 0) := (blk_cell BK301.out 0).trans rfl; have hcz34_1 : w32.cell? ⟨gb301, 1, none⟩ = some (.int .i64 0) := (blk_cell BK301.out 1).trans rfl; have hfz34_0 := blk_frozen BK301.out 0; have hfz34_1 := blk_frozen BK301.out 1; have hcz35_0 : w32.cell? ⟨gb295, 0, none⟩ = some (.int .i64 x296000_2) := (blk_cell BK295.out 0).trans rfl; have hcz35_1 : w32.cell? ⟨gb295, 1, none⟩ = some (.int .i64 x296001_2) := (blk_cell BK295.out 1).trans rfl; have hcz35_2 : w32.cell? ⟨gb295, 2, none⟩ = some (.int .i64 x296002_2) := (blk_cell BK295.out 2).trans rfl; have hcz35_3 : w32.cell? ⟨gb295, 3, none⟩ = some (.int .i64 x296003_2) := (blk_cell BK295.out 3).trans rfl; have hfz35_0 := blk_frozen BK295.out 0; have hfz35_1 := blk_frozen BK295.out 1; have hfz35_2 := blk_frozen BK295.out 2; have hfz35_3 := blk_frozen BK295.out 3) | ((with_reducible refine gate_callee (f := 68) rfl ?_); refine goesL_ (some 35) rfl rfl Try.func68 (by kernel_rfl) rfl #[.agg #[.int .i64 x296000_2, .int .i64 x296001_2, .int .i64 x296002_2, .int .i64 x296003_2], .agg #[.int .i64 ((rd_T86 l1 x27_2).f0), .int .i64 ((rd_T86 l1 x27_2).f1)]] rfl (by (try simp only [List.map_toArray, List.map_cons, List.map_nil]); first | done | rfl) ?_; (with_reducible refine (impl_OscStep.calls k2 x296000_2 x296001_2 x296002_2 x296003_2 ((rd_T86 l1 x27_2).f0) ((rd_T86 l1 x27_2).f1) t302 t303 t304 t305 false _ A18.out).mono ?_); rintro e w36 ⟨rfl, hb⟩; refine ⟨_, rfl, ?_⟩; have n0_ := zM (Kd.R_below (by (with_reducible repeat (first | apply Kd.R_alloc | apply Kd.R_drewN | apply Kd.R_drew)); exact (Kd.R_mono (Kd.R_far (p := ⟨gb301, 1, none⟩) (Kd.R_far (p := ⟨gb301, 0, none⟩) (Kd.R_types HO_6.out BK301.out (by decide)) (fun _ hk => hk.2) (.int .i64 ((rd_T86 l1 x27_2).f0))) (fun _ hk => hk.2) (.int .i64 ((rd_T86 l1 x27_2).f1))) (fun _ h_ => h_.1))) hb); have n1_ := zM (blk_below (g := gb295) (o := .cells #[.int .i64 x296000_2, .int .i64 x296001_2, .int .i64 x296002_2, .int .i64 x296003_2] 54 (0, 0)) (by (with_reducible repeat (first | refine bA ?_ _ | refine bB ?_ | refine bC ?_ _)); refine blk_far ?_ NB295_301.out _; (with_reducible repeat (first | refine bA ?_ _ | refine bB ?_ | refine bC ?_ _)); refine blk_far ?_ NB295_301.out _; (with_reducible repeat (first | refine bA ?_ _ | refine bB ?_ | refine bC ?_ _)); exact BK295.out) hb); have n2_ := zM (blk_below (g := gb301) (o := .cells #[.int .i64 ((rd_T86 l1 x27_2).f0), .int .i64 ((rd_T86 l1 x27_2).f1)] 86 (0, 0)) (by (with_reducible repeat (first | refine bA ?_ _ | refine bB ?_ | refine bC ?_ _)); refine bH (cs := #[.int .i64 ((rd_T86 l1 x27_2).f0), .int .i64 0]) ?_ 1 _ rfl; (with_reducible repeat (first | refine bA ?_ _ | refine bB ?_ | refine bC ?_ _)); refine bH (cs := #[.int .i64 0, .int .i64 0]) ?_ 0 _ rfl; (with_reducible repeat (first | refine bA ?_ _ | refine bB ?_ | refine bC ?_ _)); exact BK301.out) hb); have n3_ := zM (bG (by repeat (first | (with_reducible first | exact HB.out | apply bE | apply bD | apply bF | refine below_set ?_ GE295.out | refine below_set ?_ GE301.out) | exact HB.out)) hb); clear HO_6; clear BK295; clear BK301; clear HB; have HO_6 := n0_; have BK295 := n1_; have BK301 := n2_; have HB := n3_; clear n0_ n1_ n2_ n3_; (try clear hb); (try clear hk); (try clear hi)) | ((with_reducible refine gate_dst (N := 9) rfl ?_); (try (refine gate_guard (by rfl) ?_; dsimp only)); refine box_event ?hg (N := 9) ?hd (cs := #[.int .i64 0, .int .i64 0, .int .i64 0, .int .i64 0]) (t := 54) ?hr ?_; (case hd => rfl); (case hg => rfl); (case hr => first | (go_simp; done) | (go_simp; rfl)); intro gb307 hg w37 hbox hb; have n0_ := zM (Kd.R_below (by (with_reducible repeat (first | apply Kd.R_alloc | apply Kd.R_drewN | apply Kd.R_drew)); exact HO_6.out) hb); have n1_ := zM (blk_below (g := gb295) (o := .cells #[.int .i64 x296000_2, .int .i64 x296001_2, .int .i64 x296002_2, .int .i64 x296003_2] 54 (0, 0)) (by (with_reducible repeat (first | refine bA ?_ _ | refine bB ?_ | refine bC ?_ _)); exact BK295.out) hb); have n2_ := zM (blk_below (g := gb301) (o := .cells #[.int .i64 ((rd_T86 l1 x27_2).f0), .int .i64 ((rd_T86 l1 x27_2).f1)] 86 (0, 0)) (by (with_reducible repeat (first | refine bA ?_ _ | refine bB ?_ | refine bC ?_ _)); exact BK301.out) hb); have n3_ := zM (bG (by repeat (first | (with_reducible first | exact HB.out | apply bE | apply bD | apply bF | refine below_set ?_ GE295.out | refine below_set ?_ GE301.out) | exact HB.out)) hb); have n4_ := zM (hbox); have n5_ := zM ((by rw [hg]; exact (below_size (by repeat (first | (with_reducible first | exact HB.out | apply bE | apply bD | apply bF | refine below_set ?_ GE295.out | refine below_set ?_ GE301.out) | exact HB.out))) : w.heap.size ≤ gb307)); have n6_ := zM ((by rw [hg]; exact (below_size (by repeat (first | (with_reducible first | exact HB.out | apply bE | apply bD | apply bF | refine below_set ?_ GE295.out | refine below_set ?_ GE301.out) | exact HB.out))) : w.heap.size ≤ gb307)); have n7_ := zM ((by rw [hg]; exact Nat.ne_of_lt (blk_lt (g := gb295) (o := .cells #[.int .i64 x296000_2, .int .i64 x296001_2, .int .i64 x296002_2, .int .i64 x296003_2] 54 (0, 0)) (by (with_reducible repeat (first | refine bA ?_ _ | refine bB ?_ | refine bC ?_ _)); exact BK295.out)) : gb295 ≠ gb307)); have n8_ := zM ((by rw [hg]; exact Nat.ne_of_gt (blk_lt (g := gb295) (o := .cells #[.int .i64 x296000_2, .int .i64 x296001_2, .int .i64 x296002_2, .int .i64 x296003_2] 54 (0, 0)) (by (with_reducible repeat (first | refine bA ?_ _ | refine bB ?_ | refine bC ?_ _)); exact BK295.out)) : gb307 ≠ gb295)); have n9_ := zM ((by rw [hg]; exact Nat.ne_of_lt (blk_lt (g := gb301) (o := .cells #[.int .i64 ((rd_T86 l1 x27_2).f0), .int .i64 ((rd_T86 l1 x27_2).f1)] 86 (0, 0)) (by (with_reducible repeat (first | refine bA ?_ _ | refine bB ?_ | refine bC ?_ _)); exact BK301.out)) : gb301 ≠ gb307)); have n10_ := zM ((by rw [hg]; exact Nat.ne_of_gt (blk_lt (g := gb301) (o := .cells #[.int .i64 ((rd_T86 l1 x27_2).f0), .int .i64 ((rd_T86 l1 x27_2).f1)] 86 (0, 0)) (by (with_reducible repeat (first | refine bA ?_ _ | refine bB ?_ | refine bC ?_ _)); exact BK301.out)) : gb307 ≠ gb301)); clear HO_6; clear BK295; clear BK301; clear HB; have HO_6 := n0_; have BK295 := n1_; have BK301 := n2_; have HB := n3_; have BK307 := n4_; have GW307 := n5_; have GE307 := n6_; have NB295_307 := n7_; have NB307_295 := n8_; have NB301_307 := n9_; have NB307_301 := n10_; clear n0_ n1_ n2_ n3_ n4_ n5_ n6_ n7_ n8_ n9_ n10_; clear hb hbox hg; have hnb38 := NB307_295.out; have hnc38 := NB295_307.out; have hnb39 := NB307_301.out; have hnc39 := NB301_307.out; have hcz40_0 : w37.cell? ⟨gb307, 0, none⟩ = some (.int .i64 0) := (blk_cell BK307.out 0).trans rfl; have hcz40_1 : w37.cell? ⟨gb307, 1, none⟩ = some (.int .i64 0) := (blk_cell BK307.out 1).trans rfl; have hcz40_2 : w37.cell? ⟨gb307, 2, none⟩ = some (.int .i64 0) := (blk_cell BK307.out 2).trans rfl; have hcz40_3 : w37.cell? ⟨gb307, 3, none⟩ = some (.int .i64 0) := (blk_cell BK307.out 3).trans rfl; have hfz40_0 := blk_frozen BK307.out 0; have hfz40_1 := blk_frozen BK307.out 1; have hfz40_2 := blk_frozen BK307.out 2; have hfz40_3 := blk_frozen BK307.out 3))
          go_ret2
          exact ⟨_, by first | rfl | (simp [*, errW_none, errW_some] <;> rfl), by (with_reducible repeat (first | apply Kd.R_alloc | apply Kd.R_drewN | apply Kd.R_drew)); exact Kd.R_mono (Kd.R_far (p := ⟨gb307, 3, none⟩) (Kd.R_far (p := ⟨gb307, 2, none⟩) (Kd.R_far (p := ⟨gb307, 1, none⟩) (Kd.R_far (p := ⟨gb307, 0, none⟩) (Kd.R_types HO_6.out BK307.out (by decide)) (fun _ hk => hk.2) (.int .i64 t302)) (fun _ hk => hk.2) (.int .i64 t303)) (fun _ hk => hk.2) (.int .i64 t304)) (fun _ hk => hk.2) (.int .i64 t305)) (fun _ hk => trivial), by repeat (first | (with_reducible first | exact HB.out | apply bE | apply bD | apply bF | refine below_set ?_ GE295.out | refine below_set ?_ GE301.out | refine below_set ?_ GE307.out) | exact HB.out)⟩
        ·rw [if_neg c17] at H
         exact absurd H (by simp)
       ·rw [if_neg c16] at H
        exact absurd H (by simp)
      ·rw [if_neg c15] at H
       have c15b0 : decide (x27_2 < (l1.length : Int)) = false := decide_eq_false c15
       clear c15
       simp only [zI, zJ] at H
       obtain ⟨rfl, rfl⟩ := H
       go_wp2
       go_ret2
       exact ⟨_, by first | rfl | (simp [*, errW_none, errW_some] <;> rfl), by (with_reducible repeat (first | apply Kd.R_alloc | apply Kd.R_drewN | apply Kd.R_drew)); exact HO_6.out, by repeat (first | (with_reducible first | exact HB.out | apply bE | apply bD | apply bF | refine below_set ?_ GE295.out) | exact HB.out)⟩

/-- A state of type 101 at block g of W; what its slices lead to came in by w0. -/
def IsS101 (w0 W : World) (g : Nat) (f0 : List Int) (f1 : Int) (f2 : Int) : Prop := ∃ A0 c0, W.heap[g]? = some (.cells #[.slice A0 f0.length c0, .int .i64 f1, .int .i64 f2] 101 (0, 0)) ∧ w0.heap.size ≤ g ∧ Kd.C (Kd.int .u8) w0 A0 f0.length f0
theorem IsS101.grown {w0 W : World} {g : Nat} {f0 : List Int} {f1 : Int} {f2 : Int} {W1 : World} {row : Option Nat} (h : IsS101 w0 W g f0 f1 f2) (hw : W.grownBy W1 row) (hne : some g ≠ row) : IsS101 w0 W1 g f0 f1 f2 := by
 obtain ⟨A0, c0, hb, hg, hr0⟩ := h
 exact ⟨A0, c0, blk_grown hb hw hne, hg, hr0⟩
theorem IsS101.own_neN {w0 W : World} {g : Nat} {f0 : List Int} {f1 : Int} {f2 : Int} {α : Type} {d : Kd α} {e : Nat} {base : Nat} {ok : Nat → Prop} {v : Value} {xs : List α} (h : IsS101 w0 W g f0 f1 f2) (ho : Kd.N d e W base ok v xs) (ht : e ≠ 101) : some g ≠ v.ownBlock := by
 obtain ⟨A0, c0, hb, hg, hr0⟩ := h
 exact Kd.N_ne ho hb ht
theorem IsS101.fresh {w0 W : World} {g : Nat} {f0 : List Int} {f1 : Int} {f2 : Int} (h : IsS101 w0 W g f0 f1 f2) : ∀ k, W.heap.size ≤ k → k ≠ g := by
 obtain ⟨A0, c0, hb, hg, hr0⟩ := h
 exact Kd.freshB hb
theorem IsS101.kept {w0 W : World} {g : Nat} {f0 : List Int} {f1 : Int} {f2 : Int} {W1 : World} {S : Nat → Prop} (h : IsS101 w0 W g f0 f1 f2) (hk : Kept W W1 S) (hne : ¬ S g) : IsS101 w0 W1 g f0 f1 f2 := by
 obtain ⟨A0, c0, hb, hg, hr0⟩ := h
 exact ⟨A0, c0, blk_kept hb hk hne, hg, hr0⟩
theorem IsS101.below {w0 W : World} {g : Nat} {f0 : List Int} {f1 : Int} {f2 : Int} {W1 : World} (h : IsS101 w0 W g f0 f1 f2) (hw : Below W.heap.size W W1) : IsS101 w0 W1 g f0 f1 f2 := h.grown (grown_of_below hw none) (by simp)
theorem IsS101.alloc {w0 W : World} {g : Nat} {f0 : List Int} {f1 : Int} {f2 : Int} (h : IsS101 w0 W g f0 f1 f2) (o : Obj) : IsS101 w0 (W.alloc o) g f0 f1 f2 := h.below (bE (Below.refl _ _) o)
theorem IsS101.drewN {w0 W : World} {g : Nat} {f0 : List Int} {f1 : Int} {f2 : Int} (h : IsS101 w0 W g f0 f1 f2) (m : Nat) : IsS101 w0 (W.drewN m) g f0 f1 f2 := h
theorem IsS101.drew {w0 W : World} {g : Nat} {f0 : List Int} {f1 : Int} {f2 : Int} (h : IsS101 w0 W g f0 f1 f2) : IsS101 w0 W.drew g f0 f1 f2 := h
theorem IsS101.at_ {w0 W : World} {g : Nat} {f0 : List Int} {f1 : Int} {f2 : Int} {w' : World} {m : Nat} (hq : W.drewN m = w') (h : IsS101 w0 W g f0 f1 f2) : IsS101 w0 w' g f0 f1 f2 := by subst hq; exact IsS101.drewN h m
theorem IsS101.apart {w0 W : World} {g : Nat} {f0 : List Int} {f1 : Int} {f2 : Int} {α : Type} {d : Kd α} {e : Nat} {base : Nat} {ok : Nat → Prop} {v : Value} {xs : List α} (h : IsS101 w0 W g f0 f1 f2) (ho : d.R e W base ok v xs) (ht : ∀ q, q ∈ e :: d.E → q ≠ 101) : d.R e W base (fun k => ok k ∧ k ≠ g) v xs := by
 obtain ⟨A0, c0, hb, hg, hr0⟩ := h
 exact Kd.R_types ho hb ht
theorem IsS101.own_ne {w0 W : World} {g : Nat} {f0 : List Int} {f1 : Int} {f2 : Int} {α : Type} {d : Kd α} {e : Nat} {base : Nat} {ok : Nat → Prop} {v : Value} {xs : List α} (h : IsS101 w0 W g f0 f1 f2) (ho : d.R e W base ok v xs) (ht : e ≠ 101) : some g ≠ v.ownBlock := by
 obtain ⟨A0, c0, hb, hg, hr0⟩ := h
 exact Kd.R_ne ho hb ht
theorem IsS101.apartQ {w0 W : World} {g : Nat} {f0 : List Int} {f1 : Int} {f2 : Int} {α : Type} {d : Kd α} {e : Nat} {base : Nat} {ok : Nat → Prop} {v : Value} {xs : List α} (h : IsS101 w0 W g f0 f1 f2) (ho : d.Q e W base ok v xs) (ht : ∀ q, q ∈ e :: d.E → q ≠ 101) : d.Q e W base (fun k => ok k ∧ k ≠ g) v xs := by
 obtain ⟨A0, c0, hb, hg, hr0⟩ := h
 exact Kd.Q_types ho hb ht
theorem IsS101.own_neQ {w0 W : World} {g : Nat} {f0 : List Int} {f1 : Int} {f2 : Int} {α : Type} {d : Kd α} {e : Nat} {base : Nat} {ok : Nat → Prop} {v : Value} {xs : List α} (h : IsS101 w0 W g f0 f1 f2) (ho : d.Q e W base ok v xs) (ht : e ≠ 101) : some g ≠ v.ownBlock := by
 obtain ⟨A0, c0, hb, hg, hr0⟩ := h
 exact Kd.Q_ne ho hb ht
theorem IsS101.apartS {w0 W : World} {g : Nat} {f0 : List Int} {f1 : Int} {f2 : Int} {α : Type} {d : Kd α} {e : Nat} {base : Nat} {ok : Nat → Prop} {v : Value} {xs : List α} (h : IsS101 w0 W g f0 f1 f2) (ho : d.S e W base ok v xs) (ht : ∀ q, q ∈ e :: d.E → q ≠ 101) : d.S e W base (fun k => ok k ∧ k ≠ g) v xs := by
 obtain ⟨A0, c0, hb, hg, hr0⟩ := h
 exact Kd.S_types ho hb ht
theorem IsS101.own_neS {w0 W : World} {g : Nat} {f0 : List Int} {f1 : Int} {f2 : Int} {α : Type} {d : Kd α} {e : Nat} {base : Nat} {ok : Nat → Prop} {v : Value} {xs : List α} (h : IsS101 w0 W g f0 f1 f2) (ho : d.S e W base ok v xs) (ht : e ≠ 101) : some g ≠ v.ownBlock := by
 obtain ⟨A0, c0, hb, hg, hr0⟩ := h
 exact Kd.S_ne ho hb ht
theorem IsS101.lt {w0 W : World} {g : Nat} {f0 : List Int} {f1 : Int} {f2 : Int} (h : IsS101 w0 W g f0 f1 f2) : g < W.heap.size := by
 obtain ⟨A0, c0, hb, hg, hr0⟩ := h
 exact blk_lt hb
theorem IsS101.ge {w0 W : World} {g : Nat} {f0 : List Int} {f1 : Int} {f2 : Int} (h : IsS101 w0 W g f0 f1 f2) : w0.heap.size ≤ g := by
 obtain ⟨A0, c0, hb, hg, hr0⟩ := h
 exact hg
theorem IsS101.ne_blk {w0 W : World} {g : Nat} {f0 : List Int} {f1 : Int} {f2 : Int} {a : Nat} {cs : Array Value} {t : TypeId} {fr : Nat × Nat} (h : IsS101 w0 W g f0 f1 f2) (hb2 : W.heap[a]? = some (.cells cs t fr)) (ht : t ≠ 101) : g ≠ a := by
 obtain ⟨A0, c0, hb, hg, hr0⟩ := h
 rintro rfl
 rw [hb] at hb2
 injection hb2 with hb2
 injection hb2 with _ ht2
 exact ht ht2.symm
theorem IsS101.far {w0 W : World} {g : Nat} {f0 : List Int} {f1 : Int} {f2 : Int} {p : Addr} (h : IsS101 w0 W g f0 f1 f2) (hne : g ≠ p.block) (u : Value) : IsS101 w0 (W.setCell p u) g f0 f1 f2 := by
 obtain ⟨A0, c0, hb, hg, hr0⟩ := h
 exact ⟨A0, c0, blk_far hb hne u, hg, hr0⟩
theorem cellS101_0 {W : World} {g : Nat} {A0 : Option Addr} {c0 : Nat} {f0 : List Int} {f1 : Int} {f2 : Int} (h : W.heap[g]? = some (.cells #[.slice A0 f0.length c0, .int .i64 f1, .int .i64 f2] 101 (0, 0))) : W.cell? ⟨g, 0, none⟩ = some (.slice A0 f0.length c0) := (blk_cell h 0).trans rfl
theorem cellS101_1 {W : World} {g : Nat} {A0 : Option Addr} {c0 : Nat} {f0 : List Int} {f1 : Int} {f2 : Int} (h : W.heap[g]? = some (.cells #[.slice A0 f0.length c0, .int .i64 f1, .int .i64 f2] 101 (0, 0))) : W.cell? ⟨g, 1, none⟩ = some (.int .i64 f1) := (blk_cell h 1).trans rfl
theorem IsS101.set_1 {w0 W : World} {g : Nat} {f0 : List Int} {f1 : Int} {f2 : Int} (h : IsS101 w0 W g f0 f1 f2) (x : Int) : IsS101 w0 (W.setCell ⟨g, 1, none⟩ (.int .i64 x)) g f0 x f2 := by
 obtain ⟨A0, c0, hb, hg, hr0⟩ := h
 exact ⟨A0, c0, by simpa using blk_set hb 1 (.int .i64 x), hg, hr0⟩
theorem cellS101_2 {W : World} {g : Nat} {A0 : Option Addr} {c0 : Nat} {f0 : List Int} {f1 : Int} {f2 : Int} (h : W.heap[g]? = some (.cells #[.slice A0 f0.length c0, .int .i64 f1, .int .i64 f2] 101 (0, 0))) : W.cell? ⟨g, 2, none⟩ = some (.int .i64 f2) := (blk_cell h 2).trans rfl
theorem IsS101.set_2 {w0 W : World} {g : Nat} {f0 : List Int} {f1 : Int} {f2 : Int} (h : IsS101 w0 W g f0 f1 f2) (x : Int) : IsS101 w0 (W.setCell ⟨g, 2, none⟩ (.int .i64 x)) g f0 f1 x := by
 obtain ⟨A0, c0, hb, hg, hr0⟩ := h
 exact ⟨A0, c0, by simpa using blk_set hb 2 (.int .i64 x), hg, hr0⟩
theorem IsS101.new (w0 W : World) (A0 : Option Addr) (c0 : Nat) (f0 : List Int) (f1 : Int) (f2 : Int) (hB : Below w0.heap.size w0 W) (hr0 : Kd.C (Kd.int .u8) w0 A0 f0.length f0) : IsS101 w0 (W.alloc (.cells #[.slice A0 f0.length c0, .int .i64 f1, .int .i64 f2] 101)) W.heap.size f0 f1 f2 := ⟨A0, c0, by simpa using heap_alloc_new W _, hB.size, hr0⟩

/-! ### spec_l1New: function 50 -/
mutual
def spec_l1New.l0 : Nat → List Int → Int → Int → Option (List Int × Int × Int)
 | 0, _, _, _ => none
 | k + 1, x0, x3, x4 => if x4 < (x0.length : Int) then (spec_l1New.j1 k x0 x3 x4 (decide (x4 < 4000))) else (spec_l1New.j1 k x0 x3 x4 false)
def spec_l1New.j1 : Nat → List Int → Int → Int → Bool → Option (List Int × Int × Int)
 | 0, _, _, _, _ => none
 | k + 1, x0, x3, x4, x15 => if x15 = true then (if 0 ≤ x4 then (if x4 < (x0.length : Int) then (spec_l1New.l0 k x0 (Go.bits .and .i64 (wrap64 ((wrap64 ((wrap64 (x3 * 131)) + (wrap64 (rd x0 x4)))) + 7)) 1073741823) (wrap64 (x4 + 1))) else (none)) else (none)) else (some (x0, 0, x3))
end
def spec_l1New.f (k : Nat) (l0 : List Int) : Option (List Int × Int × Int) := spec_l1New.l0 k l0 (wrap64 (72072 + (l0.length : Int))) 0
theorem spec_l1New.mono_l : ∀ k, (∀ y0 y1 y2, LeO (spec_l1New.l0 k y0 y1 y2) (spec_l1New.l0 (k + 1) y0 y1 y2)) ∧ (∀ y0 y1 y2 y3, LeO (spec_l1New.j1 k y0 y1 y2 y3) (spec_l1New.j1 (k + 1) y0 y1 y2 y3))
 | 0 => ⟨fun _ _ _ r h => by simp [spec_l1New.l0] at h, fun _ _ _ _ r h => by simp [spec_l1New.j1] at h⟩
 | k + 1 => by
  obtain ⟨ih0, ih1⟩ := spec_l1New.mono_l k
  refine ⟨?_, ?_⟩
  ·intro y0 y1 y2
   unfold spec_l1New.l0
   repeat' first
   | (with_reducible exact ih0 _ _ _)
   | (with_reducible exact ih1 _ _ _ _)
   | (with_reducible exact LeO.refl _)
   | (with_reducible exact LeO.none _)
   | (with_reducible refine LeO.ite ?_ ?_)
   | (with_reducible refine LeO.bind ?_ (fun _ => ?_))
   | exact ih0 _ _ _
   | exact ih1 _ _ _ _
   | exact LeO.none _
   | refine LeO.ite ?_ ?_
   | refine LeO.bind ?_ (fun _ => ?_)
  ·intro y0 y1 y2 y3
   unfold spec_l1New.j1
   repeat' first
   | (with_reducible exact ih0 _ _ _)
   | (with_reducible exact ih1 _ _ _ _)
   | (with_reducible exact LeO.refl _)
   | (with_reducible exact LeO.none _)
   | (with_reducible refine LeO.ite ?_ ?_)
   | (with_reducible refine LeO.bind ?_ (fun _ => ?_))
   | exact ih0 _ _ _
   | exact ih1 _ _ _ _
   | exact LeO.none _
   | refine LeO.ite ?_ ?_
   | refine LeO.bind ?_ (fun _ => ?_)
theorem spec_l1New.mono : ∀ a0 k, LeO (spec_l1New.f k a0) (spec_l1New.f (k + 1) a0) := by
 intro a0 k
 obtain ⟨ih0, ih1⟩ := spec_l1New.mono_l k
 unfold spec_l1New.f
 repeat' first
   | (with_reducible exact ih0 _ _ _)
   | (with_reducible exact ih1 _ _ _ _)
   | (with_reducible exact LeO.refl _)
   | (with_reducible exact LeO.none _)
   | (with_reducible refine LeO.ite ?_ ?_)
   | (with_reducible refine LeO.bind ?_ (fun _ => ?_))
   | exact ih0 _ _ _
   | exact ih1 _ _ _ _
   | exact LeO.none _
   | refine LeO.ite ?_ ?_
   | refine LeO.bind ?_ (fun _ => ?_)
theorem spec_l1New.calls (k : Nat) (A0 : Option Addr) (c0 : Nat) (l0 : List Int) (r1 : List Int) (r2 : Int) (r3 : Int) (w0 w : World) (hB : Below w0.heap.size w0 w) (hr0 : Kd.C (Kd.int .u8) w0 A0 l0.length l0) (hc0 : l0.length ≤ c0) (h : spec_l1New.f k l0 = some (r1, r2, r3)) :
  Calls Try.prog 50 #[.slice A0 l0.length c0] w fun e w' => ∃ g_ : Nat, e = .returned (.pointer (some ⟨g_, 0, none⟩)) ∧ IsS101 w0 w' g_ r1 r2 r3 ∧ Below w0.heap.size w0 w' ∧ Below w.heap.size w w' := by
 have hu101 := Try.underlying101
 have HR0 := zM hr0
 have HC0 := zM hc0
 clear hr0 hc0
 have HBW := zM (Below.refl w.heap.size w)
 have HW0 := zM hB.size
 have HB := zM hB
 clear hB
 have H : (spec_l1New.l0 k l0 (wrap64 (72072 + (l0.length : Int))) 0) = some (r1, r2, r3) := h
 clear h
 have H' := zM H
 clear H
 go_enter Try.func50, Try.ntmps50
 go_wp2
 go_loopg [3, 4] k (fun kq v3 v4 w' => ∃ (x3_1 : Int) (x4_1 : Int), v3 = .int .i64 x3_1 ∧ v4 = .int .i64 x4_1 ∧ Aside0 (spec_l1New.l0 kq l0 x3_1 x4_1 = some (r1, r2, r3)) ∧ Aside0 (kq ≤ k) ∧ Aside0 (Below w.heap.size w w') ∧ Aside0 (Below w0.heap.size w0 w'))
 case atStart => exact ⟨(wrap64 (72072 + (l0.length : Int))), (0), (by first | rfl | (simp; done) | (simp [*]; done)), (by first | rfl | (simp; done) | (simp [*]; done)), H', ⟨Nat.le_refl _⟩, ⟨by repeat (first | (with_reducible first | exact HBW.out | apply bE | apply bD | apply bF) | exact HBW.out)⟩, ⟨by repeat (first | (with_reducible first | exact HB.out | apply bE | apply bD | apply bF) | exact HB.out)⟩⟩
 case round =>
  clear H'
  obtain ⟨x3_1, x4_1, rfl, rfl, HA, HK1, HBW, HB⟩ := hrel
  cases gk with
  | zero => exact absurd HA.out (by simp [spec_l1New.l0])
  | succ k1 =>
   have H := HA.out
   clear HA
   simp only [spec_l1New.l0] at H
   have HC2 := zM H
   clear H
   go_upto_region 3 with (fail)
   go_cut [15] (fun v15 wc => ∃ (kq : Nat) (x15_1 : Bool), v15 = .bool x15_1 ∧ Aside0 (spec_l1New.j1 kq l0 x3_1 x4_1 x15_1 = some (r1, r2, r3)) ∧ Aside0 (kq ≤ k1) ∧ Aside0 (Below w.heap.size w wc) ∧ Aside0 (Below w0.heap.size w0 wc))
   case first =>
    have H := HC2.out
    clear HC2
    by_cases c3 : x4_1 < (l0.length : Int)
    ·rw [if_pos c3] at H
     have c3b0 : decide (x4_1 < (l0.length : Int)) = true := decide_eq_true c3
     clear c3
     (first | rw [c3b0] | (simp only [i64_w, i32_w]; rw [c3b0]) | skip)
     have H' := zM H
     clear H
     go_wp2
     go_meet
     case rel => exact ⟨_, (decide (x4_1 < 4000)), (by first | rfl | (simp; done) | (simp [*]; done)), H', ⟨by have := HK1.out; first | omega | exact Nat.le_refl _⟩, ⟨by repeat (first | (with_reducible first | exact HBW.out | apply bE | apply bD | apply bF) | exact HBW.out)⟩, ⟨by repeat (first | (with_reducible first | exact HB.out | apply bE | apply bD | apply bF) | exact HB.out)⟩⟩
    ·rw [if_neg c3] at H
     have c3b0 : decide (x4_1 < (l0.length : Int)) = false := decide_eq_false c3
     clear c3
     (first | rw [c3b0] | (simp only [i64_w, i32_w]; rw [c3b0]) | skip)
     have H' := zM H
     clear H
     go_wp2
     go_meet
     case rel => exact ⟨_, (false), (by first | rfl | (simp; done) | (simp [*]; done)), H', ⟨by have := HK1.out; first | omega | exact Nat.le_refl _⟩, ⟨by repeat (first | (with_reducible first | exact HBW.out | apply bE | apply bD | apply bF) | exact HBW.out)⟩, ⟨by repeat (first | (with_reducible first | exact HB.out | apply bE | apply bD | apply bF) | exact HB.out)⟩⟩
   case rest =>
    clear HC2
    try clear p2
    try clear c3
    try clear c3b0
    obtain ⟨kq, x15_1, rfl, HA, HJ1, HBW, HB⟩ := hcut
    cases kq with
    | zero => exact absurd HA.out (by simp [spec_l1New.j1])
    | succ kj1 =>
     have H := HA.out
     clear HA
     simp only [spec_l1New.j1] at H
     by_cases c4 : x15_1 = true
     ·subst c4
      have H1 : (if 0 ≤ x4_1 then (if x4_1 < (l0.length : Int) then (spec_l1New.l0 kj1 l0 (Go.bits .and .i64 (wrap64 ((wrap64 ((wrap64 (x3_1 * 131)) + (wrap64 (rd l0 x4_1)))) + 7)) 1073741823) (wrap64 (x4_1 + 1))) else (none)) else (none)) = some (r1, r2, r3) := by rw [if_pos rfl] at H; exact H
      clear H
      have H := H1
      clear H1
      by_cases c5 : 0 ≤ x4_1
      ·rw [if_pos c5] at H
       have c5b0 : decide (0 ≤ x4_1) = true := decide_eq_true c5
       clear c5
       by_cases c6 : x4_1 < (l0.length : Int)
       ·rw [if_pos c6] at H
        have c6b0 : decide (x4_1 < (l0.length : Int)) = true := decide_eq_true c6
        clear c6
        have H' := zM H
        clear H
        have p311 : 0 ≤ (x4_1 : Int) := of_decide_eq_true (by first | (with_reducible assumption) | assumption)
        have q311 : x4_1 < (l0.length : Int) := of_decide_eq_true (by first | (with_reducible assumption) | assumption)
        obtain ⟨ad311, e311, hx311_0⟩ := Kd.at_int HR0.out x4_1 p311 q311
        cases e311
        replace hx311_0 := pw_cell_below HB.out hx311_0
        replace p311 := eq_true p311
        replace q311 := eq_true q311
        go_wp2
        go_roundg kj1
        case measure => have := HK1.out; have := HJ1.out; omega
        case rel => exact ⟨(Go.bits .and .i64 (wrap64 ((wrap64 ((wrap64 (x3_1 * 131)) + (wrap64 (rd l0 x4_1)))) + 7)) 1073741823), (wrap64 (x4_1 + 1)), (by first | rfl | (simp; done) | (simp [*]; done)), (by first | rfl | (simp; done) | (simp [*]; done)), H', ⟨by have := HK1.out; have := HJ1.out; omega⟩, ⟨by repeat (first | (with_reducible first | exact HBW.out | apply bE | apply bD | apply bF) | exact HBW.out)⟩, ⟨by repeat (first | (with_reducible first | exact HB.out | apply bE | apply bD | apply bF) | exact HB.out)⟩⟩
       ·rw [if_neg c6] at H
        exact absurd H (by simp)
      ·rw [if_neg c5] at H
       exact absurd H (by simp)
     ·replace c4 := Bool.eq_false_iff.mpr c4
      subst c4
      have H1 : (some (l0, 0, x3_1)) = some (r1, r2, r3) := by rw [if_neg (show ¬ (false = true) by decide)] at H; exact H
      clear H
      have H := H1
      clear H1
      simp only [zI, zJ] at H
      obtain ⟨rfl, rfl, rfl⟩ := H
      go_wp2_with (first | ((with_reducible refine gate_dst (N := 31) rfl ?_); refine box_event ?hg (N := 31) ?hd (cs := #[.slice A0 l0.length c0, .int .i64 0, .int .i64 x3_1]) (t := 101) ?hr ?_; (case hd => rfl); (case hg => rfl); (case hr => first | (go_simp; done) | (go_simp; rfl)); intro gb312 hg w7 hbox hb; have n0_ := zM (bG HBW.out hb); have n1_ := zM (bG (by repeat (first | (with_reducible first | exact HB.out | apply bE | apply bD | apply bF) | exact HB.out)) hb); have n2_ := zM (hbox); have n3_ := zM ((by rw [hg]; exact (below_size (by repeat (first | (with_reducible first | exact HBW.out | apply bE | apply bD | apply bF) | exact HBW.out))) : w.heap.size ≤ gb312)); have n4_ := zM ((Nat.le_trans HW0.out (by rw [hg]; exact (below_size (by repeat (first | (with_reducible first | exact HBW.out | apply bE | apply bD | apply bF) | exact HBW.out))) : w.heap.size ≤ gb312) : w0.heap.size ≤ gb312)); clear HBW; clear HB; have HBW := n0_; have HB := n1_; have BK312 := n2_; have GW312 := n3_; have GE312 := n4_; clear n0_ n1_ n2_ n3_ n4_; clear hb hbox hg))
      go_ret
      exact ⟨_, rfl, (show IsS101 w0 _ gb312 l0 0 x3_1 from ⟨_, _, by (with_reducible repeat (first | refine bA ?_ _ | refine bB ?_ | refine bC ?_ _)); exact BK312.out, GE312.out, HR0.out⟩), by repeat (first | (with_reducible first | exact HB.out | apply bE | apply bD | apply bF | refine below_set ?_ GE312.out) | exact HB.out), by repeat (first | (with_reducible first | exact HBW.out | apply bE | apply bD | apply bF | refine below_set ?_ GW312.out) | exact HBW.out)⟩

/-! ### spec_l1Size: function 51 -/
def spec_l1Size.f (l0 : List Int) (a1 : Int) : Option (Int) := if (wrap64 (2 + (wrap64 ((l0.length : Int) / 20)))) > a1 then (some a1) else (some (wrap64 (2 + (wrap64 ((l0.length : Int) / 20)))))
theorem spec_l1Size.calls (A0 : Option Addr) (c0 : Nat) (l0 : List Int) (a1 : Int) (r : Int) (w : World) (hr0 : Kd.C (Kd.int .u8) w A0 l0.length l0) (hc0 : l0.length ≤ c0) (h : spec_l1Size.f l0 a1 = some r) :
  Calls Try.prog 51 #[.slice A0 l0.length c0, .int .i64 a1] w fun e w' => e = .returned (.int .i64 r) ∧ Drawn0 w w' := by
 have HR0 := zM hr0
 have HC0 := zM hc0
 clear hr0 hc0
 have H : (if (wrap64 (2 + (wrap64 ((l0.length : Int) / 20)))) > a1 then (some a1) else (some (wrap64 (2 + (wrap64 ((l0.length : Int) / 20)))))) = some r := h
 clear h
 by_cases c3 : (wrap64 (2 + (wrap64 ((l0.length : Int) / 20)))) > a1
 ·rw [if_pos c3] at H
  have c3b0 : decide (a1 < (wrap64 (2 + (wrap64 ((l0.length : Int) / 20))))) = true := decide_eq_true c3
  clear c3
  obtain rfl := Option.some.inj H
  simp only [zI, zJ] at H
  obtain ⟨rfl⟩ := H
  go_enter Try.func51, Try.ntmps51
  go_wp2
  go_ret
  exact ⟨by first | rfl | (simp; done) | (simp [*]; done), by repeat (first | exact Drawn0.refl _ | apply Drawn0.step)⟩
 ·rw [if_neg c3] at H
  have c3b0 : decide (a1 < (wrap64 (2 + (wrap64 ((l0.length : Int) / 20))))) = false := decide_eq_false c3
  clear c3
  obtain rfl := Option.some.inj H
  simp only [zI, zJ] at H
  obtain ⟨rfl⟩ := H
  go_enter Try.func51, Try.ntmps51
  go_wp2
  go_ret
  exact ⟨by first | rfl | (simp; done) | (simp [*]; done), by repeat (first | exact Drawn0.refl _ | apply Drawn0.step)⟩

/-! ### spec_l1Byte: function 94 -/
def spec_l1Byte.f (s0_0 : List Int) (s0_1 : Int) (s0_2 : Int) : Option (Int × Int × Int) := if s0_1 < (s0_0.length : Int) then (if 0 ≤ s0_1 then (some (Go.bits .and .i64 (wrap64 ((Go.bits .and .i64 (Go.bits .xor .i64 ((wrap64 ((wrap64 (s0_2 * 6364136223846793005)) + 1442695040888963407)) / 8589934592) ((wrap64 ((wrap64 (s0_2 * 6364136223846793005)) + 1442695040888963407)) / 35184372088832)) 255) + (wrap64 (rd s0_0 s0_1)))) 255, wrap64 (s0_1 + 1), wrap64 ((wrap64 (s0_2 * 6364136223846793005)) + 1442695040888963407))) else (none)) else (some (Go.bits .and .i64 (Go.bits .xor .i64 ((wrap64 ((wrap64 (s0_2 * 6364136223846793005)) + 1442695040888963407)) / 8589934592) ((wrap64 ((wrap64 (s0_2 * 6364136223846793005)) + 1442695040888963407)) / 35184372088832)) 255, s0_1, wrap64 ((wrap64 (s0_2 * 6364136223846793005)) + 1442695040888963407)))
theorem spec_l1Byte.calls (g : Nat) (s0_0 : List Int) (s0_1 : Int) (s0_2 : Int) (r1 : Int) (r2 : Int) (r3 : Int) (w0 w : World) (hI : IsS101 w0 w g s0_0 s0_1 s0_2) (hB : Below w0.heap.size w0 w) (h : spec_l1Byte.f s0_0 s0_1 s0_2 = some (r1, r2, r3)) :
  Calls Try.prog 94 #[.pointer (some ⟨g, 0, none⟩)] w fun e w' => e = .returned (.int .i64 r1) ∧ IsS101 w0 w' g s0_0 r2 r3 ∧ Below w0.heap.size w0 w' ∧ KeepBut w w' g none := by
 have HI0 := zM hI
 have HK := zM (KeepBut.refl w g none)
 have HL := zM hB.size
 clear hI
 have HW0 := zM hB.size
 have HB := zM hB
 clear hB
 have H : (if s0_1 < (s0_0.length : Int) then (if 0 ≤ s0_1 then (some (Go.bits .and .i64 (wrap64 ((Go.bits .and .i64 (Go.bits .xor .i64 ((wrap64 ((wrap64 (s0_2 * 6364136223846793005)) + 1442695040888963407)) / 8589934592) ((wrap64 ((wrap64 (s0_2 * 6364136223846793005)) + 1442695040888963407)) / 35184372088832)) 255) + (wrap64 (rd s0_0 s0_1)))) 255, wrap64 (s0_1 + 1), wrap64 ((wrap64 (s0_2 * 6364136223846793005)) + 1442695040888963407))) else (none)) else (some (Go.bits .and .i64 (Go.bits .xor .i64 ((wrap64 ((wrap64 (s0_2 * 6364136223846793005)) + 1442695040888963407)) / 8589934592) ((wrap64 ((wrap64 (s0_2 * 6364136223846793005)) + 1442695040888963407)) / 35184372088832)) 255, s0_1, wrap64 ((wrap64 (s0_2 * 6364136223846793005)) + 1442695040888963407)))) = some (r1, r2, r3) := h
 clear h
 by_cases c2 : s0_1 < (s0_0.length : Int)
 ·rw [if_pos c2] at H
  have c2b0 : decide (s0_1 < (s0_0.length : Int)) = true := decide_eq_true c2
  clear c2
  by_cases c3 : 0 ≤ s0_1
  ·rw [if_pos c3] at H
   have c3b0 : decide (0 ≤ s0_1) = true := decide_eq_true c3
   clear c3
   simp only [zI, zJ] at H
   obtain ⟨rfl, rfl, rfl⟩ := H
   obtain ⟨ASz4_0, cSz4_0, HGz4, hgz4, HSz4_0⟩ := HI0.out
   have hcz4_0 := cellS101_0 HGz4
   have hcz4_1 := cellS101_1 HGz4
   have hcz4_2 := cellS101_2 HGz4
   have hfz4_1 := blk_frozen HGz4 1
   have hfz4_2 := blk_frozen HGz4 2
   clear HGz4 hgz4
   have p313 : 0 ≤ (s0_1 : Int) := of_decide_eq_true (by first | (with_reducible assumption) | assumption)
   have q313 : s0_1 < (s0_0.length : Int) := of_decide_eq_true (by first | (with_reducible assumption) | assumption)
   obtain ⟨ad313, e313, hx313_0⟩ := Kd.at_int HSz4_0 s0_1 p313 q313
   cases e313
   have hn313_0 : ad313.block ≠ g := Nat.ne_of_lt (Nat.lt_of_lt_of_le (by have := World.block_lt_of_cell? _ _ hx313_0; first | rwa [add_block] at this | exact this) (IsS101.ge HI0.out))
   replace hx313_0 := pw_cell_below HB.out hx313_0
   replace hx313_0 := (cell_far (p := ⟨g, 2, none⟩) (by first | (rw [add_block]; exact hn313_0) | (show (Addr.add _ _).block ≠ _; rw [add_block]; exact hn313_0) | exact hn313_0) (.int .i64 (wrap64 ((wrap64 (s0_2 * 6364136223846793005)) + 1442695040888963407)))).trans hx313_0
   (try have hy313_0 := fun (n_ : Nat) => (show (((w.drewN n_).setCell ⟨g, 2, none⟩ (.int .i64 (wrap64 ((wrap64 (s0_2 * 6364136223846793005)) + 1442695040888963407))))).cell? _ = some _ from hx313_0))
   clear hn313_0
   replace p313 := eq_true p313
   replace q313 := eq_true q313
   go_enter Try.func94, Try.ntmps94
   go_wp2
   repeat (go_quiet (fail); try go_wp2)
   go_ret
   exact ⟨by first | rfl | (simp [*, errW_none, errW_some] <;> rfl), by repeat (first | (with_reducible first | exact HI0.out | apply IsS101.alloc | apply IsS101.drewN | apply IsS101.drew | apply IsS101.set_1 | apply IsS101.set_2) | exact HI0.out), by repeat (first | (with_reducible first | exact HB.out | apply bE | apply bD | apply bF | refine below_set ?_ (IsS101.ge HI0.out)) | exact HB.out), by repeat (first | (with_reducible first | exact HK.out | apply KeepBut.set_ | apply keep_drewN | apply keep_drew | apply keep_alloc) | exact HK.out)⟩
  ·rw [if_neg c3] at H
   exact absurd H (by simp)
 ·rw [if_neg c2] at H
  have c2b0 : decide (s0_1 < (s0_0.length : Int)) = false := decide_eq_false c2
  clear c2
  simp only [zI, zJ] at H
  obtain ⟨rfl, rfl, rfl⟩ := H
  obtain ⟨ASz5_0, cSz5_0, HGz5, hgz5, HSz5_0⟩ := HI0.out
  have hcz5_0 := cellS101_0 HGz5
  have hcz5_1 := cellS101_1 HGz5
  have hcz5_2 := cellS101_2 HGz5
  have hfz5_1 := blk_frozen HGz5 1
  have hfz5_2 := blk_frozen HGz5 2
  clear HGz5 hgz5
  go_enter Try.func94, Try.ntmps94
  go_wp2
  repeat (go_quiet (fail); try go_wp2)
  go_ret
  exact ⟨by first | rfl | (simp [*, errW_none, errW_some] <;> rfl), by repeat (first | (with_reducible first | exact HI0.out | apply IsS101.alloc | apply IsS101.drewN | apply IsS101.drew | apply IsS101.set_1 | apply IsS101.set_2) | exact HI0.out), by repeat (first | (with_reducible first | exact HB.out | apply bE | apply bD | apply bF | refine below_set ?_ (IsS101.ge HI0.out)) | exact HB.out), by repeat (first | (with_reducible first | exact HK.out | apply KeepBut.set_ | apply keep_drewN | apply keep_drew | apply keep_alloc) | exact HK.out)⟩

/-! ### spec_l1Below: function 71 -/
def spec_l1Below.f (s0_0 : List Int) (s0_1 : Int) (s0_2 : Int) (a1 : Int) : Option (Int × Int × Int) := if a1 ≤ 0 then (some (0, s0_1, s0_2)) else (if a1 ≤ 256 then ((spec_l1Byte.f s0_0 s0_1 s0_2).bind fun bt314 => (if a1 = 0 then (none) else (some (Int.tmod bt314.1 a1, bt314.2.1, bt314.2.2)))) else ((spec_l1Byte.f s0_0 s0_1 s0_2).bind fun bt317 => ((spec_l1Byte.f s0_0 bt317.2.1 bt317.2.2).bind fun bt320 => ((spec_l1Byte.f s0_0 bt320.2.1 bt320.2.2).bind fun bt323 => ((spec_l1Byte.f s0_0 bt323.2.1 bt323.2.2).bind fun bt326 => (if a1 = 0 then (none) else (some (Int.tmod (wrap64 ((wrap64 ((wrap64 ((wrap64 (bt317.1 * 16777216)) + (wrap64 (bt320.1 * 65536)))) + (wrap64 (bt323.1 * 256)))) + bt326.1)) a1, bt326.2.1, bt326.2.2))))))))
theorem spec_l1Below.calls (g : Nat) (s0_0 : List Int) (s0_1 : Int) (s0_2 : Int) (a1 : Int) (r1 : Int) (r2 : Int) (r3 : Int) (w0 w : World) (hI : IsS101 w0 w g s0_0 s0_1 s0_2) (hB : Below w0.heap.size w0 w) (h : spec_l1Below.f s0_0 s0_1 s0_2 a1 = some (r1, r2, r3)) :
  Calls Try.prog 71 #[.pointer (some ⟨g, 0, none⟩), .int .i64 a1] w fun e w' => e = .returned (.int .i64 r1) ∧ IsS101 w0 w' g s0_0 r2 r3 ∧ Below w0.heap.size w0 w' ∧ KeepBut w w' g none := by
 have HI0 := zM hI
 have HK := zM (KeepBut.refl w g none)
 have HL := zM hB.size
 clear hI
 have HW0 := zM hB.size
 have HB := zM hB
 clear hB
 have H : (if a1 ≤ 0 then (some (0, s0_1, s0_2)) else (if a1 ≤ 256 then ((spec_l1Byte.f s0_0 s0_1 s0_2).bind fun bt314 => (if a1 = 0 then (none) else (some (Int.tmod bt314.1 a1, bt314.2.1, bt314.2.2)))) else ((spec_l1Byte.f s0_0 s0_1 s0_2).bind fun bt317 => ((spec_l1Byte.f s0_0 bt317.2.1 bt317.2.2).bind fun bt320 => ((spec_l1Byte.f s0_0 bt320.2.1 bt320.2.2).bind fun bt323 => ((spec_l1Byte.f s0_0 bt323.2.1 bt323.2.2).bind fun bt326 => (if a1 = 0 then (none) else (some (Int.tmod (wrap64 ((wrap64 ((wrap64 ((wrap64 (bt317.1 * 16777216)) + (wrap64 (bt320.1 * 65536)))) + (wrap64 (bt323.1 * 256)))) + bt326.1)) a1, bt326.2.1, bt326.2.2))))))))) = some (r1, r2, r3) := h
 clear h
 by_cases c3 : a1 ≤ 0
 ·rw [if_pos c3] at H
  have c3b0 : decide (a1 ≤ 0) = true := decide_eq_true c3
  clear c3
  simp only [zI, zJ] at H
  obtain ⟨rfl, rfl, rfl⟩ := H
  go_enter Try.func71, Try.ntmps71
  go_wp2
  go_ret
  exact ⟨by first | rfl | (simp [*, errW_none, errW_some] <;> rfl), by repeat (first | (with_reducible first | exact HI0.out | apply IsS101.alloc | apply IsS101.drewN | apply IsS101.drew | apply IsS101.set_1 | apply IsS101.set_2) | exact HI0.out), by repeat (first | (with_reducible first | exact HB.out | apply bE | apply bD | apply bF | refine below_set ?_ (IsS101.ge HI0.out)) | exact HB.out), by repeat (first | (with_reducible first | exact HK.out | apply KeepBut.set_ | apply keep_drewN | apply keep_drew | apply keep_alloc) | exact HK.out)⟩
 ·rw [if_neg c3] at H
  have c3b0 : decide (a1 ≤ 0) = false := decide_eq_false c3
  clear c3
  by_cases c4 : a1 ≤ 256
  ·rw [if_pos c4] at H
   have c4b0 : decide (a1 ≤ 256) = true := decide_eq_true c4
   clear c4
   replace H := zO H
   obtain ⟨⟨t314, t315, t316⟩, A50, H⟩ := H
   replace H : (if a1 = 0 then (none) else (some (Int.tmod t314 a1, t315, t316))) = some (r1, r2, r3) := H
   have A5 := zM A50
   clear A50
   by_cases c6 : a1 = 0
   ·rw [if_pos c6] at H
    exact absurd H (by simp)
   ·rw [if_neg c6] at H
    have c6b0 : (a1 == 0) = false := beq_eq_false_iff_ne.mpr c6
    have c6b1 : (a1 != 0) = true := bne_iff_ne.mpr c6
    simp only [zI, zJ] at H
    obtain ⟨rfl, rfl, rfl⟩ := H
    go_enter Try.func71, Try.ntmps71
    go_wp2_with (first | ((with_reducible refine gate_callee (f := 94) rfl ?_); refine goesL_ (some 14) rfl rfl Try.func94 (by kernel_rfl) rfl #[.pointer (some ⟨g, 0, none⟩)] rfl (by (try simp only [List.map_toArray, List.map_cons, List.map_nil]); first | done | rfl) ?_; (with_reducible refine (spec_l1Byte.calls g s0_0 s0_1 s0_2 t314 t315 t316 w0 _ ?side1 ?side2 A5.out).mono ?_); (case side1 => repeat (first | (with_reducible first | exact HI0.out | apply IsS101.alloc | apply IsS101.drewN | apply IsS101.drew | apply IsS101.set_1 | apply IsS101.set_2) | exact HI0.out)); (case side2 => repeat (first | (with_reducible first | exact HB.out | apply bE | apply bD | apply bF | refine below_set ?_ (IsS101.ge HI0.out)) | exact HB.out)); rintro e w7 ⟨rfl, hi, hb, hk⟩; refine ⟨_, rfl, ?_⟩; have n0_ := zM (KeepBut.trans (by repeat (first | (with_reducible first | exact HK.out | apply KeepBut.set_ | apply keep_drewN | apply keep_drew | apply keep_alloc) | exact HK.out)) hk (.inl rfl)); have n1_ := zM (hb); have n2_ := zM (hi); clear HK; clear HB; clear HI0; have HK := n0_; have HB := n1_; have HI0 := n2_; clear n0_ n1_ n2_; (try clear hb); (try clear hk); (try clear hi)))
    go_ret
    exact ⟨by first | rfl | (simp [*, errW_none, errW_some] <;> rfl), by repeat (first | (with_reducible first | exact HI0.out | apply IsS101.alloc | apply IsS101.drewN | apply IsS101.drew | apply IsS101.set_1 | apply IsS101.set_2) | exact HI0.out), by repeat (first | (with_reducible first | exact HB.out | apply bE | apply bD | apply bF | refine below_set ?_ (IsS101.ge HI0.out)) | exact HB.out), by repeat (first | (with_reducible first | exact HK.out | apply KeepBut.set_ | apply keep_drewN | apply keep_drew | apply keep_alloc) | exact HK.out)⟩
  ·rw [if_neg c4] at H
   have c4b0 : decide (a1 ≤ 256) = false := decide_eq_false c4
   clear c4
   replace H := zO H
   obtain ⟨⟨t317, t318, t319⟩, A80, H⟩ := H
   replace H : ((spec_l1Byte.f s0_0 t318 t319).bind fun bt320 => ((spec_l1Byte.f s0_0 bt320.2.1 bt320.2.2).bind fun bt323 => ((spec_l1Byte.f s0_0 bt323.2.1 bt323.2.2).bind fun bt326 => (if a1 = 0 then (none) else (some (Int.tmod (wrap64 ((wrap64 ((wrap64 ((wrap64 (t317 * 16777216)) + (wrap64 (bt320.1 * 65536)))) + (wrap64 (bt323.1 * 256)))) + bt326.1)) a1, bt326.2.1, bt326.2.2)))))) = some (r1, r2, r3) := H
   have A8 := zM A80
   clear A80
   replace H := zO H
   obtain ⟨⟨t320, t321, t322⟩, A90, H⟩ := H
   replace H : ((spec_l1Byte.f s0_0 t321 t322).bind fun bt323 => ((spec_l1Byte.f s0_0 bt323.2.1 bt323.2.2).bind fun bt326 => (if a1 = 0 then (none) else (some (Int.tmod (wrap64 ((wrap64 ((wrap64 ((wrap64 (t317 * 16777216)) + (wrap64 (t320 * 65536)))) + (wrap64 (bt323.1 * 256)))) + bt326.1)) a1, bt326.2.1, bt326.2.2))))) = some (r1, r2, r3) := H
   have A9 := zM A90
   clear A90
   replace H := zO H
   obtain ⟨⟨t323, t324, t325⟩, A100, H⟩ := H
   replace H : ((spec_l1Byte.f s0_0 t324 t325).bind fun bt326 => (if a1 = 0 then (none) else (some (Int.tmod (wrap64 ((wrap64 ((wrap64 ((wrap64 (t317 * 16777216)) + (wrap64 (t320 * 65536)))) + (wrap64 (t323 * 256)))) + bt326.1)) a1, bt326.2.1, bt326.2.2)))) = some (r1, r2, r3) := H
   have A10 := zM A100
   clear A100
   replace H := zO H
   obtain ⟨⟨t326, t327, t328⟩, A110, H⟩ := H
   replace H : (if a1 = 0 then (none) else (some (Int.tmod (wrap64 ((wrap64 ((wrap64 ((wrap64 (t317 * 16777216)) + (wrap64 (t320 * 65536)))) + (wrap64 (t323 * 256)))) + t326)) a1, t327, t328))) = some (r1, r2, r3) := H
   have A11 := zM A110
   clear A110
   by_cases c12 : a1 = 0
   ·rw [if_pos c12] at H
    exact absurd H (by simp)
   ·rw [if_neg c12] at H
    have c12b0 : (a1 == 0) = false := beq_eq_false_iff_ne.mpr c12
    have c12b1 : (a1 != 0) = true := bne_iff_ne.mpr c12
    simp only [zI, zJ] at H
    obtain ⟨rfl, rfl, rfl⟩ := H
    go_enter Try.func71, Try.ntmps71
    go_wp2_with (first | ((with_reducible refine gate_callee (f := 94) rfl ?_); refine goesL_ (some 18) rfl rfl Try.func94 (by kernel_rfl) rfl #[.pointer (some ⟨g, 0, none⟩)] rfl (by (try simp only [List.map_toArray, List.map_cons, List.map_nil]); first | done | rfl) ?_; (with_reducible refine (spec_l1Byte.calls g s0_0 s0_1 s0_2 t317 t318 t319 w0 _ ?side1 ?side2 A8.out).mono ?_); (case side1 => repeat (first | (with_reducible first | exact HI0.out | apply IsS101.alloc | apply IsS101.drewN | apply IsS101.drew | apply IsS101.set_1 | apply IsS101.set_2) | exact HI0.out)); (case side2 => repeat (first | (with_reducible first | exact HB.out | apply bE | apply bD | apply bF | refine below_set ?_ (IsS101.ge HI0.out)) | exact HB.out)); rintro e w13 ⟨rfl, hi, hb, hk⟩; refine ⟨_, rfl, ?_⟩; have n0_ := zM (KeepBut.trans (by repeat (first | (with_reducible first | exact HK.out | apply KeepBut.set_ | apply keep_drewN | apply keep_drew | apply keep_alloc) | exact HK.out)) hk (.inl rfl)); have n1_ := zM (hb); have n2_ := zM (hi); clear HK; clear HB; clear HI0; have HK := n0_; have HB := n1_; have HI0 := n2_; clear n0_ n1_ n2_; (try clear hb); (try clear hk); (try clear hi)) | ((with_reducible refine gate_callee (f := 94) rfl ?_); refine goesL_ (some 20) rfl rfl Try.func94 (by kernel_rfl) rfl #[.pointer (some ⟨g, 0, none⟩)] rfl (by (try simp only [List.map_toArray, List.map_cons, List.map_nil]); first | done | rfl) ?_; (with_reducible refine (spec_l1Byte.calls g s0_0 t318 t319 t320 t321 t322 w0 _ ?side1 ?side2 A9.out).mono ?_); (case side1 => repeat (first | (with_reducible first | exact HI0.out | apply IsS101.alloc | apply IsS101.drewN | apply IsS101.drew | apply IsS101.set_1 | apply IsS101.set_2) | exact HI0.out)); (case side2 => repeat (first | (with_reducible first | exact HB.out | apply bE | apply bD | apply bF | refine below_set ?_ (IsS101.ge HI0.out)) | exact HB.out)); rintro e w14 ⟨rfl, hi, hb, hk⟩; refine ⟨_, rfl, ?_⟩; have n0_ := zM (KeepBut.trans (by repeat (first | (with_reducible first | exact HK.out | apply KeepBut.set_ | apply keep_drewN | apply keep_drew | apply keep_alloc) | exact HK.out)) hk (.inl rfl)); have n1_ := zM (hb); have n2_ := zM (hi); clear HK; clear HB; clear HI0; have HK := n0_; have HB := n1_; have HI0 := n2_; clear n0_ n1_ n2_; (try clear hb); (try clear hk); (try clear hi)) | ((with_reducible refine gate_callee (f := 94) rfl ?_); refine goesL_ (some 22) rfl rfl Try.func94 (by kernel_rfl) rfl #[.pointer (some ⟨g, 0, none⟩)] rfl (by (try simp only [List.map_toArray, List.map_cons, List.map_nil]); first | done | rfl) ?_; (with_reducible refine (spec_l1Byte.calls g s0_0 t321 t322 t323 t324 t325 w0 _ ?side1 ?side2 A10.out).mono ?_); (case side1 => repeat (first | (with_reducible first | exact HI0.out | apply IsS101.alloc | apply IsS101.drewN | apply IsS101.drew | apply IsS101.set_1 | apply IsS101.set_2) | exact HI0.out)); (case side2 => repeat (first | (with_reducible first | exact HB.out | apply bE | apply bD | apply bF | refine below_set ?_ (IsS101.ge HI0.out)) | exact HB.out)); rintro e w15 ⟨rfl, hi, hb, hk⟩; refine ⟨_, rfl, ?_⟩; have n0_ := zM (KeepBut.trans (by repeat (first | (with_reducible first | exact HK.out | apply KeepBut.set_ | apply keep_drewN | apply keep_drew | apply keep_alloc) | exact HK.out)) hk (.inl rfl)); have n1_ := zM (hb); have n2_ := zM (hi); clear HK; clear HB; clear HI0; have HK := n0_; have HB := n1_; have HI0 := n2_; clear n0_ n1_ n2_; (try clear hb); (try clear hk); (try clear hi)) | ((with_reducible refine gate_callee (f := 94) rfl ?_); refine goesL_ (some 24) rfl rfl Try.func94 (by kernel_rfl) rfl #[.pointer (some ⟨g, 0, none⟩)] rfl (by (try simp only [List.map_toArray, List.map_cons, List.map_nil]); first | done | rfl) ?_; (with_reducible refine (spec_l1Byte.calls g s0_0 t324 t325 t326 t327 t328 w0 _ ?side1 ?side2 A11.out).mono ?_); (case side1 => repeat (first | (with_reducible first | exact HI0.out | apply IsS101.alloc | apply IsS101.drewN | apply IsS101.drew | apply IsS101.set_1 | apply IsS101.set_2) | exact HI0.out)); (case side2 => repeat (first | (with_reducible first | exact HB.out | apply bE | apply bD | apply bF | refine below_set ?_ (IsS101.ge HI0.out)) | exact HB.out)); rintro e w16 ⟨rfl, hi, hb, hk⟩; refine ⟨_, rfl, ?_⟩; have n0_ := zM (KeepBut.trans (by repeat (first | (with_reducible first | exact HK.out | apply KeepBut.set_ | apply keep_drewN | apply keep_drew | apply keep_alloc) | exact HK.out)) hk (.inl rfl)); have n1_ := zM (hb); have n2_ := zM (hi); clear HK; clear HB; clear HI0; have HK := n0_; have HB := n1_; have HI0 := n2_; clear n0_ n1_ n2_; (try clear hb); (try clear hk); (try clear hi)))
    go_ret
    exact ⟨by first | rfl | (simp [*, errW_none, errW_some] <;> rfl), by repeat (first | (with_reducible first | exact HI0.out | apply IsS101.alloc | apply IsS101.drewN | apply IsS101.drew | apply IsS101.set_1 | apply IsS101.set_2) | exact HI0.out), by repeat (first | (with_reducible first | exact HB.out | apply bE | apply bD | apply bF | refine below_set ?_ (IsS101.ge HI0.out)) | exact HB.out), by repeat (first | (with_reducible first | exact HK.out | apply KeepBut.set_ | apply keep_drewN | apply keep_drew | apply keep_alloc) | exact HK.out)⟩

/-! ### spec_l1Once: function 72 -/
def spec_l1Once.f (s0_0 : List Int) (s0_1 : Int) (s0_2 : Int) (a1 : Int) : Option (Bool × Int × Int) := (spec_l1Below.f s0_0 s0_1 s0_2 a1).bind fun bt329 => (some ((bt329.1 == 0), bt329.2.1, bt329.2.2))
theorem spec_l1Once.calls (g : Nat) (s0_0 : List Int) (s0_1 : Int) (s0_2 : Int) (a1 : Int) (r1 : Bool) (r2 : Int) (r3 : Int) (w0 w : World) (hI : IsS101 w0 w g s0_0 s0_1 s0_2) (hB : Below w0.heap.size w0 w) (h : spec_l1Once.f s0_0 s0_1 s0_2 a1 = some (r1, r2, r3)) :
  Calls Try.prog 72 #[.pointer (some ⟨g, 0, none⟩), .int .i64 a1] w fun e w' => e = .returned (.bool r1) ∧ IsS101 w0 w' g s0_0 r2 r3 ∧ Below w0.heap.size w0 w' ∧ KeepBut w w' g none := by
 have HI0 := zM hI
 have HK := zM (KeepBut.refl w g none)
 have HL := zM hB.size
 clear hI
 have HW0 := zM hB.size
 have HB := zM hB
 clear hB
 have H : ((spec_l1Below.f s0_0 s0_1 s0_2 a1).bind fun bt329 => (some ((bt329.1 == 0), bt329.2.1, bt329.2.2))) = some (r1, r2, r3) := h
 clear h
 replace H := zO H
 obtain ⟨⟨t329, t330, t331⟩, A30, H⟩ := H
 replace H : (some ((t329 == 0), t330, t331)) = some (r1, r2, r3) := H
 have A3 := zM A30
 clear A30
 simp only [zI, zJ] at H
 obtain ⟨rfl, rfl, rfl⟩ := H
 go_enter Try.func72, Try.ntmps72
 go_wp2_with (first | ((with_reducible refine gate_callee (f := 71) rfl ?_); refine goesL_ (some 7) rfl rfl Try.func71 (by kernel_rfl) rfl #[.pointer (some ⟨g, 0, none⟩), .int .i64 a1] rfl (by (try simp only [List.map_toArray, List.map_cons, List.map_nil]); first | done | rfl) ?_; (with_reducible refine (spec_l1Below.calls g s0_0 s0_1 s0_2 a1 t329 t330 t331 w0 _ ?side1 ?side2 A3.out).mono ?_); (case side1 => repeat (first | (with_reducible first | exact HI0.out | apply IsS101.alloc | apply IsS101.drewN | apply IsS101.drew | apply IsS101.set_1 | apply IsS101.set_2) | exact HI0.out)); (case side2 => repeat (first | (with_reducible first | exact HB.out | apply bE | apply bD | apply bF | refine below_set ?_ (IsS101.ge HI0.out)) | exact HB.out)); rintro e w4 ⟨rfl, hi, hb, hk⟩; refine ⟨_, rfl, ?_⟩; have n0_ := zM (KeepBut.trans (by repeat (first | (with_reducible first | exact HK.out | apply KeepBut.set_ | apply keep_drewN | apply keep_drew | apply keep_alloc) | exact HK.out)) hk (.inl rfl)); have n1_ := zM (hb); have n2_ := zM (hi); clear HK; clear HB; clear HI0; have HK := n0_; have HB := n1_; have HI0 := n2_; clear n0_ n1_ n2_; (try clear hb); (try clear hk); (try clear hi)))
 go_ret
 exact ⟨by first | rfl | (simp [*, errW_none, errW_some] <;> rfl), by repeat (first | (with_reducible first | exact HI0.out | apply IsS101.alloc | apply IsS101.drewN | apply IsS101.drew | apply IsS101.set_1 | apply IsS101.set_2) | exact HI0.out), by repeat (first | (with_reducible first | exact HB.out | apply bE | apply bD | apply bF | refine below_set ?_ (IsS101.ge HI0.out)) | exact HB.out), by repeat (first | (with_reducible first | exact HK.out | apply KeepBut.set_ | apply keep_drewN | apply keep_drew | apply keep_alloc) | exact HK.out)⟩

/-! ### spec_l1PickInt: function 96 -/
def spec_l1PickInt.f (s0_0 : List Int) (s0_1 : Int) (s0_2 : Int) (l1 : List Int) : Option (Int × Int × Int) := (spec_l1Below.f s0_0 s0_1 s0_2 (l1.length : Int)).bind fun bt332 => (if 0 ≤ bt332.1 then (if bt332.1 < (l1.length : Int) then (some (rd l1 bt332.1, bt332.2.1, bt332.2.2)) else (none)) else (none))
theorem spec_l1PickInt.calls (g : Nat) (s0_0 : List Int) (s0_1 : Int) (s0_2 : Int) (A1 : Option Addr) (c1 : Nat) (l1 : List Int) (r1 : Int) (r2 : Int) (r3 : Int) (w0 w : World) (hI : IsS101 w0 w g s0_0 s0_1 s0_2) (hB : Below w0.heap.size w0 w) (hr1 : Kd.C (Kd.int .i64) w A1 l1.length l1) (hc1 : l1.length ≤ c1) (hf1 : ∀ ad, A1 = some ad → 0 < l1.length → ad.block ≠ g) (h : spec_l1PickInt.f s0_0 s0_1 s0_2 l1 = some (r1, r2, r3)) :
  Calls Try.prog 96 #[.pointer (some ⟨g, 0, none⟩), .slice A1 l1.length c1] w fun e w' => e = .returned (.int .i64 r1) ∧ IsS101 w0 w' g s0_0 r2 r3 ∧ Below w0.heap.size w0 w' ∧ KeepBut w w' g none := by
 have HR1 := zM hr1
 have HC1 := zM hc1
 clear hr1 hc1
 have HI0 := zM hI
 have HK := zM (KeepBut.refl w g none)
 have HL := zM hB.size
 clear hI
 have HW0 := zM hB.size
 have HB := zM hB
 clear hB
 have H : ((spec_l1Below.f s0_0 s0_1 s0_2 (l1.length : Int)).bind fun bt332 => (if 0 ≤ bt332.1 then (if bt332.1 < (l1.length : Int) then (some (rd l1 bt332.1, bt332.2.1, bt332.2.2)) else (none)) else (none))) = some (r1, r2, r3) := h
 clear h
 replace H := zO H
 obtain ⟨⟨t332, t333, t334⟩, A30, H⟩ := H
 replace H : (if 0 ≤ t332 then (if t332 < (l1.length : Int) then (some (rd l1 t332, t333, t334)) else (none)) else (none)) = some (r1, r2, r3) := H
 have A3 := zM A30
 clear A30
 by_cases c4 : 0 ≤ t332
 ·rw [if_pos c4] at H
  have c4b0 : decide (0 ≤ t332) = true := decide_eq_true c4
  clear c4
  by_cases c5 : t332 < (l1.length : Int)
  ·rw [if_pos c5] at H
   have c5b0 : decide (t332 < (l1.length : Int)) = true := decide_eq_true c5
   clear c5
   simp only [zI, zJ] at H
   obtain ⟨rfl, rfl, rfl⟩ := H
   go_enter Try.func96, Try.ntmps96
   go_wp2_with (first | ((with_reducible refine gate_callee (f := 71) rfl ?_); refine goesL_ (some 9) rfl rfl Try.func71 (by kernel_rfl) rfl #[.pointer (some ⟨g, 0, none⟩), .int .i64 (l1.length : Int)] rfl (by (try simp only [List.map_toArray, List.map_cons, List.map_nil]); first | done | rfl) ?_; (with_reducible refine (spec_l1Below.calls g s0_0 s0_1 s0_2 (l1.length : Int) t332 t333 t334 w0 _ ?side1 ?side2 A3.out).mono ?_); (case side1 => repeat (first | (with_reducible first | exact HI0.out | apply IsS101.alloc | apply IsS101.drewN | apply IsS101.drew | apply IsS101.set_1 | apply IsS101.set_2) | exact HI0.out)); (case side2 => repeat (first | (with_reducible first | exact HB.out | apply bE | apply bD | apply bF | refine below_set ?_ (IsS101.ge HI0.out)) | exact HB.out)); rintro e w6 ⟨rfl, hi, hb, hk⟩; refine ⟨_, rfl, ?_⟩; have n0_ := zM (KeepBut.trans (by repeat (first | (with_reducible first | exact HK.out | apply KeepBut.set_ | apply keep_drewN | apply keep_drew | apply keep_alloc) | exact HK.out)) hk (.inl rfl)); have n1_ := zM (hb); have n2_ := zM (hi); clear HK; clear HB; clear HI0; have HK := n0_; have HB := n1_; have HI0 := n2_; clear n0_ n1_ n2_; (try clear hb); (try clear hk); (try clear hi); have p335 : 0 ≤ (t332 : Int) := of_decide_eq_true (by first | (with_reducible assumption) | assumption); have q335 : t332 < (l1.length : Int) := of_decide_eq_true (by first | (with_reducible assumption) | assumption); obtain ⟨ad335, e335, hx335_0⟩ := Kd.at_int HR1.out t332 p335 q335; cases e335; replace hx335_0 := keep_cell HK.out hx335_0 (by first | (rw [add_block]; exact hf1 _ rfl (by omega)) | exact hf1 _ rfl (by omega) | exact hf1 ad335 rfl (by omega)); replace p335 := eq_true p335; replace q335 := eq_true q335))
   go_ret
   exact ⟨by first | rfl | (simp [*, errW_none, errW_some] <;> rfl), by repeat (first | (with_reducible first | exact HI0.out | apply IsS101.alloc | apply IsS101.drewN | apply IsS101.drew | apply IsS101.set_1 | apply IsS101.set_2) | exact HI0.out), by repeat (first | (with_reducible first | exact HB.out | apply bE | apply bD | apply bF | refine below_set ?_ (IsS101.ge HI0.out)) | exact HB.out), by repeat (first | (with_reducible first | exact HK.out | apply KeepBut.set_ | apply keep_drewN | apply keep_drew | apply keep_alloc) | exact HK.out)⟩
  ·rw [if_neg c5] at H
   exact absurd H (by simp)
 ·rw [if_neg c4] at H
  exact absurd H (by simp)

end Go.Proofs.Ytlikojcfjamgpaa.XFnMarks
