-- Written by a program of this claim's session (wip/xprint.py), out of the translation.
import Derived.Test.YtlikojcfjamgpaaTFnMarksXFnMarksx0
import Derived.Test.YtlikojcfjamgpaaTFnMarksXFnMarksx2
import Derived.Test.YtlikojcfjamgpaaTFnMarksXFnMarksx3
import Derived.Test.YtlikojcfjamgpaaTFnMarksXFnMarksx6
import Derived.Test.YtlikojcfjamgpaaTFnMarksXFnMarksx7
import Derived.Test.YtlikojcfjamgpaaTFnMarksXFnMarksx9
import Derived.Test.YtlikojcfjamgpaaTFnMarksXFnMarksx11
import Derived.Test.YtlikojcfjamgpaaTFnMarksXFnMarksx12
import Derived.Test.YtlikojcfjamgpaaTFnMarksXFnMarksx13
namespace Go.Proofs.Ytlikojcfjamgpaa.XFnMarks
open Go.RowKit Go.Proofs.YtlikojcfjamgpaaW.PrintWords Go.Proofs.YtlikojcfjamgpaaW.PrintLast Go.Proofs.YtlikojcfjamgpaaW.PrintMore
open Go.Proofs.YtlikojcfjamgpaaW.PrintWords renaming blk_drewN → bA, blk_drew → bB, blk_alloc → bC, pw_below_drewN → bD, below_alloc → bE, below_drew1 → bF, Aside0.mk → zM, below_step → bG, blk_put → bH
open List renaming setIfInBounds_toArray → zS, set_cons_zero → z0, set_cons_succ → z1
attribute [local go_sem] max2_int min2_int max_two min_two max_three min_three max_four min_four
set_option linter.unusedVariables false
set_option linter.unusedSimpArgs false
set_option maxHeartbeats 8000000
set_option maxRecDepth 100000

/-! ### laws_FnMarks: function 10 -/
mutual
def laws_FnMarks.j0 : Nat → List Int → List (S38) → List (S38) → Bool → Int → Int → Int → Int → Option (Bool)
 | 0, _, _, _, _, _, _, _, _ => none
 | k + 1, x0, x5, x7, x43, x486000, x486001, x486002, x486003 => if x43 = true then (some false) else (if (x7.length : Int) = 0 then ((impl_MarksOk.f k x486000 x486001 x5).bind fun t494 => (some (!t494))) else ((impl_MarksOk.f k x486000 x486001 x5).bind fun t495 => (if t495 = true then ((impl_MarksAll.f k x486000 x486001 x5).bind fun t496 => (laws_FnMarks.j1 k x0 x5 x7 (!t496) x486000 x486001 x486002 x486003)) else (laws_FnMarks.j1 k x0 x5 x7 true x486000 x486001 x486002 x486003))))
def laws_FnMarks.j1 : Nat → List Int → List (S38) → List (S38) → Bool → Int → Int → Int → Int → Option (Bool)
 | 0, _, _, _, _, _, _, _, _ => none
 | k + 1, x0, x5, x7, x63, x486000, x486001, x486002, x486003 => if x63 = true then (some false) else ((laws_at.f x0 1).bind fun t497 => (if (x5.length : Int) = 0 then (none) else ((laws_at.f x0 2).bind fun t498 => (if (wrap64 ((x5.length : Int) - (Int.tmod t497 (x5.length : Int)))) = 0 then (none) else ((impl_ElapsedAt.f k x486000 x486001 x5 (Int.tmod t497 (x5.length : Int)) (wrap64 ((Int.tmod t497 (x5.length : Int)) + (Int.tmod t498 (wrap64 ((x5.length : Int) - (Int.tmod t497 (x5.length : Int)))))))).bind fun bt499 => ((spec_ElapsedAt.f k x486000 x486001 x7 (Int.tmod t497 (x5.length : Int)) (wrap64 ((Int.tmod t497 (x5.length : Int)) + (Int.tmod t498 (wrap64 ((x5.length : Int) - (Int.tmod t497 (x5.length : Int)))))))).bind fun bt503 => (if (bt499.2.2 == bt503.2.2) = true then (if bt499.2.2 = true then (if 0 ≤ (wrap64 ((Int.tmod t497 (x5.length : Int)) + (Int.tmod t498 (wrap64 ((x5.length : Int) - (Int.tmod t497 (x5.length : Int))))))) then (if (wrap64 ((Int.tmod t497 (x5.length : Int)) + (Int.tmod t498 (wrap64 ((x5.length : Int) - (Int.tmod t497 (x5.length : Int))))))) < (x5.length : Int) then (if 0 ≤ (Int.tmod t497 (x5.length : Int)) then (if (Int.tmod t497 (x5.length : Int)) < (x5.length : Int) then ((impl_Holds.f bt499.1 bt499.2.1 (wrap64 (((rd_T38 x5 (wrap64 ((Int.tmod t497 (x5.length : Int)) + (Int.tmod t498 (wrap64 ((x5.length : Int) - (Int.tmod t497 (x5.length : Int)))))))).f0) - ((rd_T38 x5 (Int.tmod t497 (x5.length : Int))).f0)))).bind fun t509 => (some t509)) else (none)) else (none)) else (none)) else (none)) else (some true)) else (some false))))))))
end
def laws_FnMarks.f (k : Nat) (l0 : List Int) : Option (Bool) := (laws_big.f l0).bind fun t477 => (if t477 = true then (some true) else ((spec_DrawOscRun.f k l0).bind fun bt478 => ((impl_OscRun.f k bt478.1 bt478.2.1 bt478.2.2.1 bt478.2.2.2.1 bt478.2.2.2.2).bind fun bt486 => ((spec_OscRun.f k bt478.1 bt478.2.1 bt478.2.2.1 bt478.2.2.2.1 bt478.2.2.2.2).bind fun bt490 => (if bt486.2 = bt490.2 then (laws_FnMarks.j0 k l0 bt486.1 bt490.1 ((bt486.1.length : Int) != (bt490.1.length : Int)) bt478.1 bt478.2.1 bt478.2.2.1 bt478.2.2.2.1) else (laws_FnMarks.j0 k l0 bt486.1 bt490.1 true bt478.1 bt478.2.1 bt478.2.2.1 bt478.2.2.2.1))))))
theorem laws_FnMarks.mono_l : ∀ k, (∀ y0 y1 y2 y3 y4 y5 y6 y7, LeO (laws_FnMarks.j0 k y0 y1 y2 y3 y4 y5 y6 y7) (laws_FnMarks.j0 (k + 1) y0 y1 y2 y3 y4 y5 y6 y7)) ∧ (∀ y0 y1 y2 y3 y4 y5 y6 y7, LeO (laws_FnMarks.j1 k y0 y1 y2 y3 y4 y5 y6 y7) (laws_FnMarks.j1 (k + 1) y0 y1 y2 y3 y4 y5 y6 y7))
 | 0 => ⟨fun _ _ _ _ _ _ _ _ r h => by simp [laws_FnMarks.j0] at h, fun _ _ _ _ _ _ _ _ r h => by simp [laws_FnMarks.j1] at h⟩
 | k + 1 => by
  obtain ⟨ih0, ih1⟩ := laws_FnMarks.mono_l k
  refine ⟨?_, ?_⟩
  ·intro y0 y1 y2 y3 y4 y5 y6 y7
   unfold laws_FnMarks.j0
   repeat' first
   | (with_reducible exact ih0 _ _ _ _ _ _ _ _)
   | (with_reducible exact ih1 _ _ _ _ _ _ _ _)
   | (with_reducible exact impl_ElapsedAt.mono _ _ _ _ _ _)
   | (with_reducible exact impl_MarksAll.mono _ _ _ _)
   | (with_reducible exact impl_MarksOk.mono _ _ _ _)
   | (with_reducible exact impl_OscRun.mono _ _ _ _ _ _)
   | (with_reducible exact spec_DrawOscRun.mono _ _)
   | (with_reducible exact spec_ElapsedAt.mono _ _ _ _ _ _)
   | (with_reducible exact spec_OscRun.mono _ _ _ _ _ _)
   | (with_reducible exact LeO.refl _)
   | (with_reducible exact LeO.none _)
   | (with_reducible refine LeO.ite ?_ ?_)
   | (with_reducible refine LeO.bind ?_ (fun _ => ?_))
   | exact ih0 _ _ _ _ _ _ _ _
   | exact ih1 _ _ _ _ _ _ _ _
   | exact impl_ElapsedAt.mono _ _ _ _ _ _
   | exact impl_MarksAll.mono _ _ _ _
   | exact impl_MarksOk.mono _ _ _ _
   | exact impl_OscRun.mono _ _ _ _ _ _
   | exact spec_DrawOscRun.mono _ _
   | exact spec_ElapsedAt.mono _ _ _ _ _ _
   | exact spec_OscRun.mono _ _ _ _ _ _
   | exact LeO.none _
   | refine LeO.ite ?_ ?_
   | refine LeO.bind ?_ (fun _ => ?_)
  ·intro y0 y1 y2 y3 y4 y5 y6 y7
   unfold laws_FnMarks.j1
   repeat' first
   | (with_reducible exact ih0 _ _ _ _ _ _ _ _)
   | (with_reducible exact ih1 _ _ _ _ _ _ _ _)
   | (with_reducible exact impl_ElapsedAt.mono _ _ _ _ _ _)
   | (with_reducible exact impl_MarksAll.mono _ _ _ _)
   | (with_reducible exact impl_MarksOk.mono _ _ _ _)
   | (with_reducible exact impl_OscRun.mono _ _ _ _ _ _)
   | (with_reducible exact spec_DrawOscRun.mono _ _)
   | (with_reducible exact spec_ElapsedAt.mono _ _ _ _ _ _)
   | (with_reducible exact spec_OscRun.mono _ _ _ _ _ _)
   | (with_reducible exact LeO.refl _)
   | (with_reducible exact LeO.none _)
   | (with_reducible refine LeO.ite ?_ ?_)
   | (with_reducible refine LeO.bind ?_ (fun _ => ?_))
   | exact ih0 _ _ _ _ _ _ _ _
   | exact ih1 _ _ _ _ _ _ _ _
   | exact impl_ElapsedAt.mono _ _ _ _ _ _
   | exact impl_MarksAll.mono _ _ _ _
   | exact impl_MarksOk.mono _ _ _ _
   | exact impl_OscRun.mono _ _ _ _ _ _
   | exact spec_DrawOscRun.mono _ _
   | exact spec_ElapsedAt.mono _ _ _ _ _ _
   | exact spec_OscRun.mono _ _ _ _ _ _
   | exact LeO.none _
   | refine LeO.ite ?_ ?_
   | refine LeO.bind ?_ (fun _ => ?_)
theorem laws_FnMarks.mono : ∀ a0 k, LeO (laws_FnMarks.f k a0) (laws_FnMarks.f (k + 1) a0) := by
 intro a0 k
 obtain ⟨ih0, ih1⟩ := laws_FnMarks.mono_l k
 unfold laws_FnMarks.f
 repeat' first
   | (with_reducible exact ih0 _ _ _ _ _ _ _ _)
   | (with_reducible exact ih1 _ _ _ _ _ _ _ _)
   | (with_reducible exact impl_ElapsedAt.mono _ _ _ _ _ _)
   | (with_reducible exact impl_MarksAll.mono _ _ _ _)
   | (with_reducible exact impl_MarksOk.mono _ _ _ _)
   | (with_reducible exact impl_OscRun.mono _ _ _ _ _ _)
   | (with_reducible exact spec_DrawOscRun.mono _ _)
   | (with_reducible exact spec_ElapsedAt.mono _ _ _ _ _ _)
   | (with_reducible exact spec_OscRun.mono _ _ _ _ _ _)
   | (with_reducible exact LeO.refl _)
   | (with_reducible exact LeO.none _)
   | (with_reducible refine LeO.ite ?_ ?_)
   | (with_reducible refine LeO.bind ?_ (fun _ => ?_))
   | exact ih0 _ _ _ _ _ _ _ _
   | exact ih1 _ _ _ _ _ _ _ _
   | exact impl_ElapsedAt.mono _ _ _ _ _ _
   | exact impl_MarksAll.mono _ _ _ _
   | exact impl_MarksOk.mono _ _ _ _
   | exact impl_OscRun.mono _ _ _ _ _ _
   | exact spec_DrawOscRun.mono _ _
   | exact spec_ElapsedAt.mono _ _ _ _ _ _
   | exact spec_OscRun.mono _ _ _ _ _ _
   | exact LeO.none _
   | refine LeO.ite ?_ ?_
   | refine LeO.bind ?_ (fun _ => ?_)
def laws_FnMarks.T16 : Bool × List (List Nat × List Nat) := (true, [([], []), ([], []), ([0, 1], [0, 1]), ([2], [2]), ([3], [3]), ([4, 3], [3, 4]), ([5, 3, 3], [3, 5]), ([6], [6]), ([6], [6]), ([6], [6]), ([8, 9, 6], [6, 8, 9]), ([10, 6], [6, 10]), ([11, 6], [6, 11]), ([6], [6]), ([6], [6]), ([13, 14, 6], [6, 13, 14]), ([15, 6], [6, 15]), ([16, 6], [6, 16]), ([12, 17, 6], [6, 12, 17]), ([7, 18, 6, 6], [6, 7, 18]), ([6, 19, 3], [3, 6, 19]), ([3, 20], [3, 20]), ([21, 19, 0, 1, 2, 3, 4, 5, 6, 7, 8, 9, 10, 11, 12, 13, 14, 15, 16, 17, 18, 19, 20, 21], [21])])
def laws_FnMarks.B16 : List Nat := [0, 0, 3, 7, 15, 31, 63, 127, 127, 127, 895, 1919, 3967, 127, 127, 24703, 57471, 123007, 262015, 524287, 1048575, 2097151, 4194303]
theorem laws_FnMarks.tab16 : rtab .any (opsOf Try.f10 16) = laws_FnMarks.T16 := by kernel_rfl
theorem laws_FnMarks.bits16 : waitsOk laws_FnMarks.T16.2 laws_FnMarks.B16 = true := by kernel_rfl
theorem laws_FnMarks.calls (k : Nat) (A0 : Option Addr) (c0 : Nat) (l0 : List Int) (r : Bool) (w : World) (hr0 : Kd.C (Kd.int .u8) w A0 l0.length l0) (hc0 : l0.length ≤ c0) (HR : Aside0 (r = true)) (h : laws_FnMarks.f k l0 = some r) :
  Calls Try.prog 10 #[.slice A0 l0.length c0] w fun e w' => e = .returned (.bool r) ∧ Below w.heap.size w w' := by
 have hu54 := Try.underlying54
 have hu27 := Try.underlying27
 have hu40 := Try.underlying40
 have HR0 := zM hr0
 have HC0 := zM hc0
 clear hr0 hc0
 have HB := zM (Below.refl w.heap.size w)
 have H : ((laws_big.f l0).bind fun t477 => (if t477 = true then (some true) else ((spec_DrawOscRun.f k l0).bind fun bt478 => ((impl_OscRun.f k bt478.1 bt478.2.1 bt478.2.2.1 bt478.2.2.2.1 bt478.2.2.2.2).bind fun bt486 => ((spec_OscRun.f k bt478.1 bt478.2.1 bt478.2.2.1 bt478.2.2.2.1 bt478.2.2.2.2).bind fun bt490 => (if bt486.2 = bt490.2 then (laws_FnMarks.j0 k l0 bt486.1 bt490.1 ((bt486.1.length : Int) != (bt490.1.length : Int)) bt478.1 bt478.2.1 bt478.2.2.1 bt478.2.2.2.1) else (laws_FnMarks.j0 k l0 bt486.1 bt490.1 true bt478.1 bt478.2.1 bt478.2.2.1 bt478.2.2.2.1))))))) = some r := h
 clear h
 replace H := zO H
 obtain ⟨t477, A20, H⟩ := H
 replace H : (if t477 = true then (some true) else ((spec_DrawOscRun.f k l0).bind fun bt478 => ((impl_OscRun.f k bt478.1 bt478.2.1 bt478.2.2.1 bt478.2.2.2.1 bt478.2.2.2.2).bind fun bt486 => ((spec_OscRun.f k bt478.1 bt478.2.1 bt478.2.2.1 bt478.2.2.2.1 bt478.2.2.2.2).bind fun bt490 => (if bt486.2 = bt490.2 then (laws_FnMarks.j0 k l0 bt486.1 bt490.1 ((bt486.1.length : Int) != (bt490.1.length : Int)) bt478.1 bt478.2.1 bt478.2.2.1 bt478.2.2.2.1) else (laws_FnMarks.j0 k l0 bt486.1 bt490.1 true bt478.1 bt478.2.1 bt478.2.2.1 bt478.2.2.2.1)))))) = some r := H
 have A2 := zM A20
 clear A20
 by_cases c3 : t477 = true
 ·subst c3
  have H1 : (some true) = some r := by rw [if_pos rfl] at H; exact H
  clear H
  have H := H1
  clear H1
  obtain rfl := Option.some.inj H
  simp only [zI, zJ] at H
  obtain ⟨rfl⟩ := H
  go_enter Try.func10, Try.ntmps10
  go_wp2_with (first | ((with_reducible refine gate_callee (f := 20) rfl ?_); refine goesL_ (some 16) rfl rfl Try.func20 (by kernel_rfl) rfl #[.slice A0 l0.length c0] rfl (by (try simp only [List.map_toArray, List.map_cons, List.map_nil]); first | done | rfl) ?_; (with_reducible refine (laws_big.calls _ _ l0 true _ ?side1 ?side2 A2.out).mono ?_); (case side1 => repeat (first | exact HR0.out | (with_reducible refine Kd.C_alloc ?_ _) | (with_reducible refine Kd.C_drewN ?_ _) | (with_reducible refine Kd.C_drew ?_))); (case side2 => exact HC0.out); rintro e w' ⟨rfl, ⟨nd, rfl⟩⟩; refine ⟨_, rfl, ?_⟩))
  go_ret
  exact ⟨by first | rfl | (simp [*, errW_none, errW_some] <;> rfl), by repeat (first | (with_reducible first | exact HB.out | apply bE | apply bD | apply bF) | exact HB.out)⟩
 ·replace c3 := Bool.eq_false_iff.mpr c3
  subst c3
  have H1 : ((spec_DrawOscRun.f k l0).bind fun bt478 => ((impl_OscRun.f k bt478.1 bt478.2.1 bt478.2.2.1 bt478.2.2.2.1 bt478.2.2.2.2).bind fun bt486 => ((spec_OscRun.f k bt478.1 bt478.2.1 bt478.2.2.1 bt478.2.2.2.1 bt478.2.2.2.2).bind fun bt490 => (if bt486.2 = bt490.2 then (laws_FnMarks.j0 k l0 bt486.1 bt490.1 ((bt486.1.length : Int) != (bt490.1.length : Int)) bt478.1 bt478.2.1 bt478.2.2.1 bt478.2.2.2.1) else (laws_FnMarks.j0 k l0 bt486.1 bt490.1 true bt478.1 bt478.2.1 bt478.2.2.1 bt478.2.2.2.1))))) = some r := by rw [if_neg (show ¬ (false = true) by decide)] at H; exact H
  clear H
  have H := H1
  clear H1
  replace H := zO H
  obtain ⟨⟨t478, t479, t480, t481, t482⟩, A40, H⟩ := H
  replace H : ((impl_OscRun.f k t478 t479 t480 t481 t482).bind fun bt486 => ((spec_OscRun.f k t478 t479 t480 t481 t482).bind fun bt490 => (if bt486.2 = bt490.2 then (laws_FnMarks.j0 k l0 bt486.1 bt490.1 ((bt486.1.length : Int) != (bt490.1.length : Int)) t478 t479 t480 t481) else (laws_FnMarks.j0 k l0 bt486.1 bt490.1 true t478 t479 t480 t481)))) = some r := H
  have A4 := zM A40
  clear A40
  replace H := zO H
  obtain ⟨⟨t486, t489⟩, A50, H⟩ := H
  replace H : ((spec_OscRun.f k t478 t479 t480 t481 t482).bind fun bt490 => (if t489 = bt490.2 then (laws_FnMarks.j0 k l0 t486 bt490.1 ((t486.length : Int) != (bt490.1.length : Int)) t478 t479 t480 t481) else (laws_FnMarks.j0 k l0 t486 bt490.1 true t478 t479 t480 t481))) = some r := H
  have A5 := zM A50
  clear A50
  replace H := zO H
  obtain ⟨⟨t490, t493⟩, A60, H⟩ := H
  replace H : (if t489 = t493 then (laws_FnMarks.j0 k l0 t486 t490 ((t486.length : Int) != (t490.length : Int)) t478 t479 t480 t481) else (laws_FnMarks.j0 k l0 t486 t490 true t478 t479 t480 t481)) = some r := H
  have A6 := zM A60
  clear A60
  have HC7 := zM H
  clear H
  go_enter Try.func10, Try.ntmps10
  go_upto_region 6 with (first | ((with_reducible refine gate_callee (f := 20) rfl ?_); refine goesL_ (some 16) rfl rfl Try.func20 (by kernel_rfl) rfl #[.slice A0 l0.length c0] rfl (by (try simp only [List.map_toArray, List.map_cons, List.map_nil]); first | done | rfl) ?_; (with_reducible refine (laws_big.calls _ _ l0 false _ ?side1 ?side2 A2.out).mono ?_); (case side1 => repeat (first | exact HR0.out | (with_reducible refine Kd.C_alloc ?_ _) | (with_reducible refine Kd.C_drewN ?_ _) | (with_reducible refine Kd.C_drew ?_))); (case side2 => exact HC0.out); rintro e w' ⟨rfl, ⟨nd, rfl⟩⟩; refine ⟨_, rfl, ?_⟩) | ((with_reducible refine gate_callee (f := 38) rfl ?_); refine goesL_ (some 19) rfl rfl Try.func38 (by kernel_rfl) rfl #[.slice A0 l0.length c0] rfl (by (try simp only [List.map_toArray, List.map_cons, List.map_nil]); first | done | rfl) ?_; (with_reducible refine (spec_DrawOscRun.calls k _ _ l0 t478 t479 t480 t481 t482 _ ?side1 ?side2 A4.out).mono ?_); (case side1 => repeat (first | exact HR0.out | (with_reducible refine Kd.C_alloc ?_ _) | (with_reducible refine Kd.C_drewN ?_ _) | (with_reducible refine Kd.C_drew ?_))); (case side2 => exact HC0.out); rintro e w8 ⟨v483, rfl, ho0, hb⟩; refine ⟨_, rfl, ?_⟩; have n0_ := zM (Kd.R_lower ho0 (below_size (by repeat (first | (with_reducible first | exact HB.out | apply bE | apply bD | apply bF) | exact HB.out)))); have n1_ := zM (bG (by repeat (first | (with_reducible first | exact HB.out | apply bE | apply bD | apply bF) | exact HB.out)) hb); clear HB; have HO484 := n0_; have HB := n1_; clear n0_ n1_; (try clear hb); (try clear hk); (try clear hi); (try clear ho0)) | ((with_reducible refine gate_dst (N := 3) rfl ?_); (try (refine gate_guard (by rfl) ?_; dsimp only)); refine box_event ?hg (N := 3) ?hd (cs := #[.int .i64 0, .int .i64 0, .int .i64 0, .int .i64 0]) (t := 54) ?hr ?_; (case hd => rfl); (case hg => rfl); (case hr => first | (go_simp; done) | (go_simp; rfl)); intro gb485 hg w9 hbox hb; have n0_ := zM (Kd.R_below (by (with_reducible repeat (first | apply Kd.R_alloc | apply Kd.R_drewN | apply Kd.R_drew)); exact HO484.out) hb); have n1_ := zM (bG (by repeat (first | (with_reducible first | exact HB.out | apply bE | apply bD | apply bF) | exact HB.out)) hb); have n2_ := zM (hbox); have n3_ := zM ((by rw [hg]; exact (below_size (by repeat (first | (with_reducible first | exact HB.out | apply bE | apply bD | apply bF) | exact HB.out))) : w.heap.size ≤ gb485)); have n4_ := zM ((by rw [hg]; exact (below_size (by repeat (first | (with_reducible first | exact HB.out | apply bE | apply bD | apply bF) | exact HB.out))) : w.heap.size ≤ gb485)); clear HO484; clear HB; have HO484 := n0_; have HB := n1_; have BK485 := n2_; have GW485 := n3_; have GE485 := n4_; clear n0_ n1_ n2_ n3_ n4_; clear hb hbox hg; have hcz10_0 : w9.cell? ⟨gb485, 0, none⟩ = some (.int .i64 0) := (blk_cell BK485.out 0).trans rfl; have hcz10_1 : w9.cell? ⟨gb485, 1, none⟩ = some (.int .i64 0) := (blk_cell BK485.out 1).trans rfl; have hcz10_2 : w9.cell? ⟨gb485, 2, none⟩ = some (.int .i64 0) := (blk_cell BK485.out 2).trans rfl; have hcz10_3 : w9.cell? ⟨gb485, 3, none⟩ = some (.int .i64 0) := (blk_cell BK485.out 3).trans rfl; have hfz10_0 := blk_frozen BK485.out 0; have hfz10_1 := blk_frozen BK485.out 1; have hfz10_2 := blk_frozen BK485.out 2; have hfz10_3 := blk_frozen BK485.out 3; obtain ⟨Ao11, co11, eo11⟩ := Kd.R_slice HO484.out; subst eo11) | ((with_reducible refine gate_callee (f := 33) rfl ?_); refine goesL_ (some 25) rfl rfl Try.func33 (by kernel_rfl) rfl #[.agg #[.int .i64 t478, .int .i64 t479, .int .i64 t480, .int .i64 t481], .slice Ao11 t482.length co11] rfl (by (try simp only [List.map_toArray, List.map_cons, List.map_nil]); first | done | rfl) ?_; (with_reducible refine (impl_OscRun.calls k t478 t479 t480 t481 _ _ t482 t486 t489 _ ?side1 ?side2 A5.out).mono ?_); (case side1 => refine (Kd.R_reads' (e := 86) (base := w.heap.size) (ok := fun k_ => True) (n := t482.length) (c := co11) ?_).2.2; exact (by (with_reducible repeat (first | apply Kd.R_alloc | apply Kd.R_drewN | apply Kd.R_drew)); exact (Kd.R_mono (Kd.R_far (p := ⟨gb485, 3, none⟩) (Kd.R_far (p := ⟨gb485, 2, none⟩) (Kd.R_far (p := ⟨gb485, 1, none⟩) (Kd.R_far (p := ⟨gb485, 0, none⟩) (Kd.R_types HO484.out BK485.out (by decide)) (fun _ hk => hk.2) (.int .i64 t478)) (fun _ hk => hk.2) (.int .i64 t479)) (fun _ hk => hk.2) (.int .i64 t480)) (fun _ hk => hk.2) (.int .i64 t481)) (fun _ h_ => h_.1)))); (case side2 => exact (Kd.R_reads' HO484.out).2.1); rintro e w12 ⟨v487, rfl, ho0, hb⟩; refine ⟨_, rfl, ?_⟩; have n0_ := zM (Kd.R_below (by (with_reducible repeat (first | apply Kd.R_alloc | apply Kd.R_drewN | apply Kd.R_drew)); exact (Kd.R_mono (Kd.R_far (p := ⟨gb485, 3, none⟩) (Kd.R_far (p := ⟨gb485, 2, none⟩) (Kd.R_far (p := ⟨gb485, 1, none⟩) (Kd.R_far (p := ⟨gb485, 0, none⟩) (Kd.R_types HO484.out BK485.out (by decide)) (fun _ hk => hk.2) (.int .i64 t478)) (fun _ hk => hk.2) (.int .i64 t479)) (fun _ hk => hk.2) (.int .i64 t480)) (fun _ hk => hk.2) (.int .i64 t481)) (fun _ h_ => h_.1))) hb); have n1_ := zM (Kd.R_lower ho0 (below_size (by repeat (first | (with_reducible first | exact HB.out | apply bE | apply bD | apply bF | refine below_set ?_ GE485.out) | exact HB.out)))); have n2_ := zM (blk_below (g := gb485) (o := .cells #[.int .i64 t478, .int .i64 t479, .int .i64 t480, .int .i64 t481] 54 (0, 0)) (by (with_reducible repeat (first | refine bA ?_ _ | refine bB ?_ | refine bC ?_ _)); refine bH (cs := #[.int .i64 t478, .int .i64 t479, .int .i64 t480, .int .i64 0]) ?_ 3 _ rfl; (with_reducible repeat (first | refine bA ?_ _ | refine bB ?_ | refine bC ?_ _)); refine bH (cs := #[.int .i64 t478, .int .i64 t479, .int .i64 0, .int .i64 0]) ?_ 2 _ rfl; (with_reducible repeat (first | refine bA ?_ _ | refine bB ?_ | refine bC ?_ _)); refine bH (cs := #[.int .i64 t478, .int .i64 0, .int .i64 0, .int .i64 0]) ?_ 1 _ rfl; (with_reducible repeat (first | refine bA ?_ _ | refine bB ?_ | refine bC ?_ _)); refine bH (cs := #[.int .i64 0, .int .i64 0, .int .i64 0, .int .i64 0]) ?_ 0 _ rfl; (with_reducible repeat (first | refine bA ?_ _ | refine bB ?_ | refine bC ?_ _)); exact BK485.out) hb); have n3_ := zM (bG (by repeat (first | (with_reducible first | exact HB.out | apply bE | apply bD | apply bF | refine below_set ?_ GE485.out) | exact HB.out)) hb); clear HO484; clear BK485; clear HB; have HO484 := n0_; have HO488 := n1_; have BK485 := n2_; have HB := n3_; clear n0_ n1_ n2_ n3_; (try clear hb); (try clear hk); (try clear hi); (try clear ho0); have hcz13_0 : w12.cell? ⟨gb485, 0, none⟩ = some (.int .i64 t478) := (blk_cell BK485.out 0).trans rfl; have hcz13_1 : w12.cell? ⟨gb485, 1, none⟩ = some (.int .i64 t479) := (blk_cell BK485.out 1).trans rfl; have hcz13_2 : w12.cell? ⟨gb485, 2, none⟩ = some (.int .i64 t480) := (blk_cell BK485.out 2).trans rfl; have hcz13_3 : w12.cell? ⟨gb485, 3, none⟩ = some (.int .i64 t481) := (blk_cell BK485.out 3).trans rfl; have hfz13_0 := blk_frozen BK485.out 0; have hfz13_1 := blk_frozen BK485.out 1; have hfz13_2 := blk_frozen BK485.out 2; have hfz13_3 := blk_frozen BK485.out 3) | ((with_reducible refine gate_callee (f := 30) rfl ?_); refine goesL_ (some 31) rfl rfl Try.func30 (by kernel_rfl) rfl #[.agg #[.int .i64 t478, .int .i64 t479, .int .i64 t480, .int .i64 t481], .slice Ao11 t482.length co11] rfl (by (try simp only [List.map_toArray, List.map_cons, List.map_nil]); first | done | rfl) ?_; (with_reducible refine (spec_OscRun.calls k t478 t479 t480 t481 _ _ t482 t490 t493 _ ?side1 ?side2 A6.out).mono ?_); (case side1 => repeat (first | exact (Kd.R_reads' HO484.out).2.2 | (with_reducible refine Kd.C_alloc ?_ _) | (with_reducible refine Kd.C_drewN ?_ _) | (with_reducible refine Kd.C_drew ?_))); (case side2 => exact (Kd.R_reads' HO484.out).2.1); rintro e w14 ⟨v491, rfl, ho0, hb⟩; refine ⟨_, rfl, ?_⟩; have n0_ := zM (Kd.R_below (by (with_reducible repeat (first | apply Kd.R_alloc | apply Kd.R_drewN | apply Kd.R_drew)); exact HO484.out) hb); have n1_ := zM (Kd.R_elder' (by (with_reducible repeat (first | apply Kd.R_alloc | apply Kd.R_drewN | apply Kd.R_drew)); exact HO488.out) (Kd.R_base ho0) hb); have n2_ := zM (Kd.R_lower (Kd.R_new' ho0 (Kd.R_lt (by (with_reducible repeat (first | apply Kd.R_alloc | apply Kd.R_drewN | apply Kd.R_drew)); exact HO488.out))) (below_size (by repeat (first | (with_reducible first | exact HB.out | apply bE | apply bD | apply bF | refine below_set ?_ GE485.out) | exact HB.out)))); have n3_ := zM (blk_below (g := gb485) (o := .cells #[.int .i64 t478, .int .i64 t479, .int .i64 t480, .int .i64 t481] 54 (0, 0)) (by (with_reducible repeat (first | refine bA ?_ _ | refine bB ?_ | refine bC ?_ _)); exact BK485.out) hb); have n4_ := zM (bG (by repeat (first | (with_reducible first | exact HB.out | apply bE | apply bD | apply bF | refine below_set ?_ GE485.out) | exact HB.out)) hb); clear HO484; clear HO488; clear BK485; clear HB; have HO484 := n0_; have HO488 := n1_; have HO492 := n2_; have BK485 := n3_; have HB := n4_; clear n0_ n1_ n2_ n3_ n4_; (try clear hb); (try clear hk); (try clear hi); (try clear ho0)))
  (try simp only [Act.put, zS, z0, z1])
  go_cut [43] (fun v43 wc => ∃ (kq : Nat) (x43_6 : Bool), v43 = .bool x43_6 ∧ Aside0 (laws_FnMarks.j0 kq l0 t486 t490 x43_6 t478 t479 t480 t481 = some r) ∧ Aside0 (kq ≤ k) ∧ Aside0 (Kd.R k38 38 wc w.heap.size (fun k_ => some k_ ≠ (v491 : Value).ownBlock) v487 t486) ∧ Aside0 (Kd.R k38 38 wc w.heap.size (fun k_ => some k_ ≠ (v487 : Value).ownBlock) v491 t490) ∧ Aside0 (wc.heap[gb485]? = some (.cells #[.int .i64 t478, .int .i64 t479, .int .i64 t480, .int .i64 t481] 54 (0, 0))) ∧ Aside0 (Below w.heap.size w wc))
  case first =>
   have H := HC7.out
   clear HC7
   by_cases c15 : t489 = t493
   ·rw [if_pos c15] at H
    have c15b0 : (t489 == t493) = true := beq_iff_eq.mpr c15
    have c15b1 : (t489 != t493) = false := bne_eq_false_iff_eq.mpr c15
    clear c15
    (first | rw [c15b0] | (simp only [i64_w, i32_w]; rw [c15b0]) | skip)
    have H' := zM H
    clear H
    obtain ⟨Ao16, co16, eo16⟩ := Kd.R_slice HO488.out
    subst eo16
    obtain ⟨Ao17, co17, eo17⟩ := Kd.R_slice HO492.out
    subst eo17
    go_wp2
    go_meet
    case rel => exact ⟨_, (((t486.length : Int) != (t490.length : Int))), (by first | rfl | (simp; done) | (simp [*]; done)), H', ⟨by first | omega | exact Nat.le_refl _⟩, ⟨by (with_reducible repeat (first | apply Kd.R_alloc | apply Kd.R_drewN | apply Kd.R_drew)); exact Kd.R_mono HO488.out (fun _ hk => hk.2)⟩, ⟨by (with_reducible repeat (first | apply Kd.R_alloc | apply Kd.R_drewN | apply Kd.R_drew)); exact Kd.R_mono HO492.out (fun _ hk => hk.2)⟩, ⟨by (with_reducible repeat (first | refine bA ?_ _ | refine bB ?_ | refine bC ?_ _)); exact BK485.out⟩, ⟨by repeat (first | (with_reducible first | exact HB.out | apply bE | apply bD | apply bF | refine below_set ?_ GE485.out) | exact HB.out)⟩⟩
   ·rw [if_neg c15] at H
    have c15b0 : (t489 == t493) = false := beq_eq_false_iff_ne.mpr c15
    have c15b1 : (t489 != t493) = true := bne_iff_ne.mpr c15
    (first | rw [c15b0] | (simp only [i64_w, i32_w]; rw [c15b0]) | skip)
    have H' := zM H
    clear H
    go_wp2
    go_meet
    case rel => exact ⟨_, (true), (by first | rfl | (simp; done) | (simp [*]; done)), H', ⟨by first | omega | exact Nat.le_refl _⟩, ⟨by (with_reducible repeat (first | apply Kd.R_alloc | apply Kd.R_drewN | apply Kd.R_drew)); exact Kd.R_mono HO488.out (fun _ hk => hk.2)⟩, ⟨by (with_reducible repeat (first | apply Kd.R_alloc | apply Kd.R_drewN | apply Kd.R_drew)); exact Kd.R_mono HO492.out (fun _ hk => hk.2)⟩, ⟨by (with_reducible repeat (first | refine bA ?_ _ | refine bB ?_ | refine bC ?_ _)); exact BK485.out⟩, ⟨by repeat (first | (with_reducible first | exact HB.out | apply bE | apply bD | apply bF | refine below_set ?_ GE485.out) | exact HB.out)⟩⟩
  case rest =>
   clear HC7
   try clear c1
   try clear c2
   try clear p2
   try clear c3
   try clear c10
   try clear c15
   try clear c15b0
   try clear c15b1
   try clear hcz10_0
   try clear hcz10_1
   try clear hcz10_2
   try clear hcz10_3
   try clear hcz13_0
   try clear hcz13_1
   try clear hcz13_2
   try clear hcz13_3
   try clear hfz10_0
   try clear hfz10_1
   try clear hfz10_2
   try clear hfz10_3
   try clear hfz13_0
   try clear hfz13_1
   try clear hfz13_2
   try clear hfz13_3
   obtain ⟨kq, x43_6, rfl, HA, HJ6, HO_5, HO_7, BK485, HB⟩ := hcut
   cases kq with
   | zero => exact absurd HA.out (by simp [laws_FnMarks.j0])
   | succ kj6 =>
    have H := HA.out
    clear HA
    simp only [laws_FnMarks.j0] at H
    by_cases c18 : x43_6 = true
    ·subst c18
     have H1 : (some false) = some r := by rw [if_pos rfl] at H; exact H
     clear H
     have H := H1
     clear H1
     obtain rfl := Option.some.inj H
     exact absurd HR.out (by decide)
    ·replace c18 := Bool.eq_false_iff.mpr c18
     subst c18
     have H1 : (if (t490.length : Int) = 0 then ((impl_MarksOk.f kj6 t478 t479 t486).bind fun t494 => (some (!t494))) else ((impl_MarksOk.f kj6 t478 t479 t486).bind fun t495 => (if t495 = true then ((impl_MarksAll.f kj6 t478 t479 t486).bind fun t496 => (laws_FnMarks.j1 kj6 l0 t486 t490 (!t496) t478 t479 t480 t481)) else (laws_FnMarks.j1 kj6 l0 t486 t490 true t478 t479 t480 t481)))) = some r := by rw [if_neg (show ¬ (false = true) by decide)] at H; exact H
     clear H
     have H := H1
     clear H1
     by_cases c19 : (t490.length : Int) = 0
     ·rw [if_pos c19] at H
      have c19b0 : ((t490.length : Int) == 0) = true := beq_iff_eq.mpr c19
      have c19b1 : ((t490.length : Int) != 0) = false := bne_eq_false_iff_eq.mpr c19
      clear c19
      replace H := zO H
      obtain ⟨t494, A200, H⟩ := H
      replace H : (some (!t494)) = some r := H
      have A20 := zM A200
      clear A200
      obtain rfl := Option.some.inj H
      simp only [zI, zJ] at H
      obtain ⟨rfl⟩ := H
      obtain ⟨Ao21, co21, eo21⟩ := Kd.R_slice HO_7.out
      subst eo21
      have hcz22_0 : wc.cell? ⟨gb485, 0, none⟩ = some (.int .i64 t478) := (blk_cell BK485.out 0).trans rfl
      have hcz22_1 : wc.cell? ⟨gb485, 1, none⟩ = some (.int .i64 t479) := (blk_cell BK485.out 1).trans rfl
      have hcz22_2 : wc.cell? ⟨gb485, 2, none⟩ = some (.int .i64 t480) := (blk_cell BK485.out 2).trans rfl
      have hcz22_3 : wc.cell? ⟨gb485, 3, none⟩ = some (.int .i64 t481) := (blk_cell BK485.out 3).trans rfl
      have hfz22_0 := blk_frozen BK485.out 0
      have hfz22_1 := blk_frozen BK485.out 1
      have hfz22_2 := blk_frozen BK485.out 2
      have hfz22_3 := blk_frozen BK485.out 3
      obtain ⟨Ao23, co23, eo23⟩ := Kd.R_slice HO_5.out
      subst eo23
      go_wp2_with (first | ((with_reducible refine gate_callee (f := 16) rfl ?_); refine goesL_ (some 50) rfl rfl Try.func16 (by kernel_rfl) rfl #[.agg #[.int .i64 t478, .int .i64 t479], .slice Ao23 t486.length co23] rfl (by (try simp only [List.map_toArray, List.map_cons, List.map_nil]); first | done | rfl) ?_; (with_reducible refine (impl_MarksOk.calls kj6 t478 t479 _ _ t486 t494 _ ?side1 ?side2 A20.out).mono ?_); (case side1 => repeat (first | exact (Kd.R_reads' HO_5.out).2.2 | (with_reducible refine Kd.C_alloc ?_ _) | (with_reducible refine Kd.C_drewN ?_ _) | (with_reducible refine Kd.C_drew ?_))); (case side2 => exact (Kd.R_reads' HO_5.out).2.1); rintro e w24 ⟨rfl, hb⟩; refine ⟨_, rfl, ?_⟩; have n0_ := zM (Kd.R_below (by (with_reducible repeat (first | apply Kd.R_alloc | apply Kd.R_drewN | apply Kd.R_drew)); exact HO_5.out) hb); have n1_ := zM (Kd.R_below (by (with_reducible repeat (first | apply Kd.R_alloc | apply Kd.R_drewN | apply Kd.R_drew)); exact HO_7.out) hb); have n2_ := zM (blk_below (g := gb485) (o := .cells #[.int .i64 t478, .int .i64 t479, .int .i64 t480, .int .i64 t481] 54 (0, 0)) (by (with_reducible repeat (first | refine bA ?_ _ | refine bB ?_ | refine bC ?_ _)); exact BK485.out) hb); have n3_ := zM (bG (by repeat (first | (with_reducible first | exact HB.out | apply bE | apply bD | apply bF | refine below_set ?_ GE485.out) | exact HB.out)) hb); clear HO_5; clear HO_7; clear BK485; clear HB; have HO_5 := n0_; have HO_7 := n1_; have BK485 := n2_; have HB := n3_; clear n0_ n1_ n2_ n3_; (try clear hb); (try clear hk); (try clear hi)))
      go_ret
      exact ⟨by first | rfl | (simp [*, errW_none, errW_some] <;> rfl), by repeat (first | (with_reducible first | exact HB.out | apply bE | apply bD | apply bF | refine below_set ?_ GE485.out) | exact HB.out)⟩
     ·rw [if_neg c19] at H
      have c19b0 : ((t490.length : Int) == 0) = false := beq_eq_false_iff_ne.mpr c19
      have c19b1 : ((t490.length : Int) != 0) = true := bne_iff_ne.mpr c19
      have c19b2 : ¬ (t490 = []) := fun h_ => c19 (by rw [h_]; rfl)
      have HC25 := zM H
      clear H
      obtain ⟨Ao26, co26, eo26⟩ := Kd.R_slice HO_7.out
      subst eo26
      go_upto_region 10 with (fail)
      go_cut [63] (fun v63 wc => ∃ (kq : Nat) (x63_24 : Bool), v63 = .bool x63_24 ∧ Aside0 (laws_FnMarks.j1 kq l0 t486 t490 x63_24 t478 t479 t480 t481 = some r) ∧ Aside0 (kq ≤ kj6) ∧ Aside0 (Kd.R k38 38 wc w.heap.size (fun k_ => some k_ ≠ ((.slice Ao26 t490.length co26) : Value).ownBlock) v487 t486) ∧ Aside0 (Kd.R k38 38 wc w.heap.size (fun k_ => some k_ ≠ (v487 : Value).ownBlock) (.slice Ao26 t490.length co26) t490) ∧ Aside0 (wc.heap[gb485]? = some (.cells #[.int .i64 t478, .int .i64 t479, .int .i64 t480, .int .i64 t481] 54 (0, 0))) ∧ Aside0 (Below w.heap.size w wc))
      case first =>
       have H := HC25.out
       clear HC25
       replace H := zO H
       obtain ⟨t495, A270, H⟩ := H
       replace H : (if t495 = true then ((impl_MarksAll.f kj6 t478 t479 t486).bind fun t496 => (laws_FnMarks.j1 kj6 l0 t486 t490 (!t496) t478 t479 t480 t481)) else (laws_FnMarks.j1 kj6 l0 t486 t490 true t478 t479 t480 t481)) = some r := H
       have A27 := zM A270
       clear A270
       by_cases c28 : t495 = true
       ·subst c28
        have H1 : ((impl_MarksAll.f kj6 t478 t479 t486).bind fun t496 => (laws_FnMarks.j1 kj6 l0 t486 t490 (!t496) t478 t479 t480 t481)) = some r := by rw [if_pos rfl] at H; exact H
        clear H
        have H := H1
        clear H1
        replace H := zO H
        obtain ⟨t496, A290, H⟩ := H
        replace H : (laws_FnMarks.j1 kj6 l0 t486 t490 (!t496) t478 t479 t480 t481) = some r := H
        have A29 := zM A290
        clear A290
        have H' := zM H
        clear H
        have hcz30_0 : wc.cell? ⟨gb485, 0, none⟩ = some (.int .i64 t478) := (blk_cell BK485.out 0).trans rfl
        have hcz30_1 : wc.cell? ⟨gb485, 1, none⟩ = some (.int .i64 t479) := (blk_cell BK485.out 1).trans rfl
        have hcz30_2 : wc.cell? ⟨gb485, 2, none⟩ = some (.int .i64 t480) := (blk_cell BK485.out 2).trans rfl
        have hcz30_3 : wc.cell? ⟨gb485, 3, none⟩ = some (.int .i64 t481) := (blk_cell BK485.out 3).trans rfl
        have hfz30_0 := blk_frozen BK485.out 0
        have hfz30_1 := blk_frozen BK485.out 1
        have hfz30_2 := blk_frozen BK485.out 2
        have hfz30_3 := blk_frozen BK485.out 3
        obtain ⟨Ao31, co31, eo31⟩ := Kd.R_slice HO_5.out
        subst eo31
        go_wp2_with (first | ((with_reducible refine gate_callee (f := 16) rfl ?_); refine goesL_ (some 55) rfl rfl Try.func16 (by kernel_rfl) rfl #[.agg #[.int .i64 t478, .int .i64 t479], .slice Ao31 t486.length co31] rfl (by (try simp only [List.map_toArray, List.map_cons, List.map_nil]); first | done | rfl) ?_; (with_reducible refine (impl_MarksOk.calls kj6 t478 t479 _ _ t486 true _ ?side1 ?side2 A27.out).mono ?_); (case side1 => repeat (first | exact (Kd.R_reads' HO_5.out).2.2 | (with_reducible refine Kd.C_alloc ?_ _) | (with_reducible refine Kd.C_drewN ?_ _) | (with_reducible refine Kd.C_drew ?_))); (case side2 => exact (Kd.R_reads' HO_5.out).2.1); rintro e w32 ⟨rfl, hb⟩; refine ⟨_, rfl, ?_⟩; have n0_ := zM (Kd.R_below (by (with_reducible repeat (first | apply Kd.R_alloc | apply Kd.R_drewN | apply Kd.R_drew)); exact HO_5.out) hb); have n1_ := zM (Kd.R_below (by (with_reducible repeat (first | apply Kd.R_alloc | apply Kd.R_drewN | apply Kd.R_drew)); exact HO_7.out) hb); have n2_ := zM (blk_below (g := gb485) (o := .cells #[.int .i64 t478, .int .i64 t479, .int .i64 t480, .int .i64 t481] 54 (0, 0)) (by (with_reducible repeat (first | refine bA ?_ _ | refine bB ?_ | refine bC ?_ _)); exact BK485.out) hb); have n3_ := zM (bG (by repeat (first | (with_reducible first | exact HB.out | apply bE | apply bD | apply bF | refine below_set ?_ GE485.out) | exact HB.out)) hb); clear HO_5; clear HO_7; clear BK485; clear HB; have HO_5 := n0_; have HO_7 := n1_; have BK485 := n2_; have HB := n3_; clear n0_ n1_ n2_ n3_; (try clear hb); (try clear hk); (try clear hi); have hcz33_0 : w32.cell? ⟨gb485, 0, none⟩ = some (.int .i64 t478) := (blk_cell BK485.out 0).trans rfl; have hcz33_1 : w32.cell? ⟨gb485, 1, none⟩ = some (.int .i64 t479) := (blk_cell BK485.out 1).trans rfl; have hcz33_2 : w32.cell? ⟨gb485, 2, none⟩ = some (.int .i64 t480) := (blk_cell BK485.out 2).trans rfl; have hcz33_3 : w32.cell? ⟨gb485, 3, none⟩ = some (.int .i64 t481) := (blk_cell BK485.out 3).trans rfl; have hfz33_0 := blk_frozen BK485.out 0; have hfz33_1 := blk_frozen BK485.out 1; have hfz33_2 := blk_frozen BK485.out 2; have hfz33_3 := blk_frozen BK485.out 3) | (go_at_call 19; (with_reducible refine (impl_MarksAll.calls kj6 t478 t479 _ _ t486 t496 _ ?side1 ?side2 A29.out).mono ?_); (case side1 => repeat (first | exact (Kd.R_reads' HO_5.out).2.2 | (with_reducible refine Kd.C_alloc ?_ _) | (with_reducible refine Kd.C_drewN ?_ _) | (with_reducible refine Kd.C_drew ?_))); (case side2 => exact (Kd.R_reads' HO_5.out).2.1); rintro e w34 ⟨rfl, hb⟩; have n0_ := zM (Kd.R_below (by (with_reducible repeat (first | apply Kd.R_alloc | apply Kd.R_drewN | apply Kd.R_drew)); exact HO_5.out) hb); have n1_ := zM (Kd.R_below (by (with_reducible repeat (first | apply Kd.R_alloc | apply Kd.R_drewN | apply Kd.R_drew)); exact HO_7.out) hb); have n2_ := zM (blk_below (g := gb485) (o := .cells #[.int .i64 t478, .int .i64 t479, .int .i64 t480, .int .i64 t481] 54 (0, 0)) (by (with_reducible repeat (first | refine bA ?_ _ | refine bB ?_ | refine bC ?_ _)); exact BK485.out) hb); have n3_ := zM (bG (by repeat (first | (with_reducible first | exact HB.out | apply bE | apply bD | apply bF | refine below_set ?_ GE485.out) | exact HB.out)) hb); clear HO_5; clear HO_7; clear BK485; clear HB; have HO_5 := n0_; have HO_7 := n1_; have BK485 := n2_; have HB := n3_; clear n0_ n1_ n2_ n3_; (try clear hb); (try clear hk); (try clear hi)))
        go_meet
        case rel => exact ⟨_, (!t496), (by first | rfl | (simp; done) | (simp [*]; done)), H', ⟨by have := HJ6.out; first | omega | exact Nat.le_refl _⟩, ⟨by (with_reducible repeat (first | apply Kd.R_alloc | apply Kd.R_drewN | apply Kd.R_drew)); exact HO_5.out⟩, ⟨by (with_reducible repeat (first | apply Kd.R_alloc | apply Kd.R_drewN | apply Kd.R_drew)); exact HO_7.out⟩, ⟨by (with_reducible repeat (first | refine bA ?_ _ | refine bB ?_ | refine bC ?_ _)); exact BK485.out⟩, ⟨by repeat (first | (with_reducible first | exact HB.out | apply bE | apply bD | apply bF | refine below_set ?_ GE485.out) | exact HB.out)⟩⟩
       ·replace c28 := Bool.eq_false_iff.mpr c28
        subst c28
        have H1 : (laws_FnMarks.j1 kj6 l0 t486 t490 true t478 t479 t480 t481) = some r := by rw [if_neg (show ¬ (false = true) by decide)] at H; exact H
        clear H
        have H := H1
        clear H1
        have H' := zM H
        clear H
        have hcz35_0 : wc.cell? ⟨gb485, 0, none⟩ = some (.int .i64 t478) := (blk_cell BK485.out 0).trans rfl
        have hcz35_1 : wc.cell? ⟨gb485, 1, none⟩ = some (.int .i64 t479) := (blk_cell BK485.out 1).trans rfl
        have hcz35_2 : wc.cell? ⟨gb485, 2, none⟩ = some (.int .i64 t480) := (blk_cell BK485.out 2).trans rfl
        have hcz35_3 : wc.cell? ⟨gb485, 3, none⟩ = some (.int .i64 t481) := (blk_cell BK485.out 3).trans rfl
        have hfz35_0 := blk_frozen BK485.out 0
        have hfz35_1 := blk_frozen BK485.out 1
        have hfz35_2 := blk_frozen BK485.out 2
        have hfz35_3 := blk_frozen BK485.out 3
        obtain ⟨Ao36, co36, eo36⟩ := Kd.R_slice HO_5.out
        subst eo36
        go_wp2_with (first | ((with_reducible refine gate_callee (f := 16) rfl ?_); refine goesL_ (some 55) rfl rfl Try.func16 (by kernel_rfl) rfl #[.agg #[.int .i64 t478, .int .i64 t479], .slice Ao36 t486.length co36] rfl (by (try simp only [List.map_toArray, List.map_cons, List.map_nil]); first | done | rfl) ?_; (with_reducible refine (impl_MarksOk.calls kj6 t478 t479 _ _ t486 false _ ?side1 ?side2 A27.out).mono ?_); (case side1 => repeat (first | exact (Kd.R_reads' HO_5.out).2.2 | (with_reducible refine Kd.C_alloc ?_ _) | (with_reducible refine Kd.C_drewN ?_ _) | (with_reducible refine Kd.C_drew ?_))); (case side2 => exact (Kd.R_reads' HO_5.out).2.1); rintro e w37 ⟨rfl, hb⟩; refine ⟨_, rfl, ?_⟩; have n0_ := zM (Kd.R_below (by (with_reducible repeat (first | apply Kd.R_alloc | apply Kd.R_drewN | apply Kd.R_drew)); exact HO_5.out) hb); have n1_ := zM (Kd.R_below (by (with_reducible repeat (first | apply Kd.R_alloc | apply Kd.R_drewN | apply Kd.R_drew)); exact HO_7.out) hb); have n2_ := zM (blk_below (g := gb485) (o := .cells #[.int .i64 t478, .int .i64 t479, .int .i64 t480, .int .i64 t481] 54 (0, 0)) (by (with_reducible repeat (first | refine bA ?_ _ | refine bB ?_ | refine bC ?_ _)); exact BK485.out) hb); have n3_ := zM (bG (by repeat (first | (with_reducible first | exact HB.out | apply bE | apply bD | apply bF | refine below_set ?_ GE485.out) | exact HB.out)) hb); clear HO_5; clear HO_7; clear BK485; clear HB; have HO_5 := n0_; have HO_7 := n1_; have BK485 := n2_; have HB := n3_; clear n0_ n1_ n2_ n3_; (try clear hb); (try clear hk); (try clear hi)))
        go_meet
        case rel => exact ⟨_, (true), (by first | rfl | (simp; done) | (simp [*]; done)), H', ⟨by have := HJ6.out; first | omega | exact Nat.le_refl _⟩, ⟨by (with_reducible repeat (first | apply Kd.R_alloc | apply Kd.R_drewN | apply Kd.R_drew)); exact HO_5.out⟩, ⟨by (with_reducible repeat (first | apply Kd.R_alloc | apply Kd.R_drewN | apply Kd.R_drew)); exact HO_7.out⟩, ⟨by (with_reducible repeat (first | refine bA ?_ _ | refine bB ?_ | refine bC ?_ _)); exact BK485.out⟩, ⟨by repeat (first | (with_reducible first | exact HB.out | apply bE | apply bD | apply bF | refine below_set ?_ GE485.out) | exact HB.out)⟩⟩
      case rest =>
       clear HC25
       try clear c1
       try clear c2
       try clear p2
       try clear c3
       try clear c10
       try clear c15
       try clear c15b0
       try clear c15b1
       try clear c16
       try clear c18
       try clear c19
       try clear c19b0
       try clear c19b1
       try clear c19b2
       try clear c20
       try clear c28
       try clear c30
       try clear c33
       try clear hcz10_0
       try clear hcz10_1
       try clear hcz10_2
       try clear hcz10_3
       try clear hcz13_0
       try clear hcz13_1
       try clear hcz13_2
       try clear hcz13_3
       try clear hcz22_0
       try clear hcz22_1
       try clear hcz22_2
       try clear hcz22_3
       try clear hcz30_0
       try clear hcz30_1
       try clear hcz30_2
       try clear hcz30_3
       try clear hcz33_0
       try clear hcz33_1
       try clear hcz33_2
       try clear hcz33_3
       try clear hcz35_0
       try clear hcz35_1
       try clear hcz35_2
       try clear hcz35_3
       try clear hfz10_0
       try clear hfz10_1
       try clear hfz10_2
       try clear hfz10_3
       try clear hfz13_0
       try clear hfz13_1
       try clear hfz13_2
       try clear hfz13_3
       try clear hfz22_0
       try clear hfz22_1
       try clear hfz22_2
       try clear hfz22_3
       try clear hfz30_0
       try clear hfz30_1
       try clear hfz30_2
       try clear hfz30_3
       try clear hfz33_0
       try clear hfz33_1
       try clear hfz33_2
       try clear hfz33_3
       try clear hfz35_0
       try clear hfz35_1
       try clear hfz35_2
       try clear hfz35_3
       try clear p2
       obtain ⟨kq, x63_24, rfl, HA, HJ24, HO_5, HO_7, BK485, HB⟩ := hcut
       cases kq with
       | zero => exact absurd HA.out (by simp [laws_FnMarks.j1])
       | succ kj24 =>
        have H := HA.out
        clear HA
        simp only [laws_FnMarks.j1] at H
        by_cases c38 : x63_24 = true
        ·subst c38
         have H1 : (some false) = some r := by rw [if_pos rfl] at H; exact H
         clear H
         have H := H1
         clear H1
         obtain rfl := Option.some.inj H
         exact absurd HR.out (by decide)
        ·replace c38 := Bool.eq_false_iff.mpr c38
         subst c38
         have H1 : ((laws_at.f l0 1).bind fun t497 => (if (t486.length : Int) = 0 then (none) else ((laws_at.f l0 2).bind fun t498 => (if (wrap64 ((t486.length : Int) - (Int.tmod t497 (t486.length : Int)))) = 0 then (none) else ((impl_ElapsedAt.f kj24 t478 t479 t486 (Int.tmod t497 (t486.length : Int)) (wrap64 ((Int.tmod t497 (t486.length : Int)) + (Int.tmod t498 (wrap64 ((t486.length : Int) - (Int.tmod t497 (t486.length : Int)))))))).bind fun bt499 => ((spec_ElapsedAt.f kj24 t478 t479 t490 (Int.tmod t497 (t486.length : Int)) (wrap64 ((Int.tmod t497 (t486.length : Int)) + (Int.tmod t498 (wrap64 ((t486.length : Int) - (Int.tmod t497 (t486.length : Int)))))))).bind fun bt503 => (if (bt499.2.2 == bt503.2.2) = true then (if bt499.2.2 = true then (if 0 ≤ (wrap64 ((Int.tmod t497 (t486.length : Int)) + (Int.tmod t498 (wrap64 ((t486.length : Int) - (Int.tmod t497 (t486.length : Int))))))) then (if (wrap64 ((Int.tmod t497 (t486.length : Int)) + (Int.tmod t498 (wrap64 ((t486.length : Int) - (Int.tmod t497 (t486.length : Int))))))) < (t486.length : Int) then (if 0 ≤ (Int.tmod t497 (t486.length : Int)) then (if (Int.tmod t497 (t486.length : Int)) < (t486.length : Int) then ((impl_Holds.f bt499.1 bt499.2.1 (wrap64 (((rd_T38 t486 (wrap64 ((Int.tmod t497 (t486.length : Int)) + (Int.tmod t498 (wrap64 ((t486.length : Int) - (Int.tmod t497 (t486.length : Int)))))))).f0) - ((rd_T38 t486 (Int.tmod t497 (t486.length : Int))).f0)))).bind fun t509 => (some t509)) else (none)) else (none)) else (none)) else (none)) else (some true)) else (some false)))))))) = some r := by rw [if_neg (show ¬ (false = true) by decide)] at H; exact H
         clear H
         have H := H1
         clear H1
         replace H := zO H
         obtain ⟨t497, A390, H⟩ := H
         replace H : (if (t486.length : Int) = 0 then (none) else ((laws_at.f l0 2).bind fun t498 => (if (wrap64 ((t486.length : Int) - (Int.tmod t497 (t486.length : Int)))) = 0 then (none) else ((impl_ElapsedAt.f kj24 t478 t479 t486 (Int.tmod t497 (t486.length : Int)) (wrap64 ((Int.tmod t497 (t486.length : Int)) + (Int.tmod t498 (wrap64 ((t486.length : Int) - (Int.tmod t497 (t486.length : Int)))))))).bind fun bt499 => ((spec_ElapsedAt.f kj24 t478 t479 t490 (Int.tmod t497 (t486.length : Int)) (wrap64 ((Int.tmod t497 (t486.length : Int)) + (Int.tmod t498 (wrap64 ((t486.length : Int) - (Int.tmod t497 (t486.length : Int)))))))).bind fun bt503 => (if (bt499.2.2 == bt503.2.2) = true then (if bt499.2.2 = true then (if 0 ≤ (wrap64 ((Int.tmod t497 (t486.length : Int)) + (Int.tmod t498 (wrap64 ((t486.length : Int) - (Int.tmod t497 (t486.length : Int))))))) then (if (wrap64 ((Int.tmod t497 (t486.length : Int)) + (Int.tmod t498 (wrap64 ((t486.length : Int) - (Int.tmod t497 (t486.length : Int))))))) < (t486.length : Int) then (if 0 ≤ (Int.tmod t497 (t486.length : Int)) then (if (Int.tmod t497 (t486.length : Int)) < (t486.length : Int) then ((impl_Holds.f bt499.1 bt499.2.1 (wrap64 (((rd_T38 t486 (wrap64 ((Int.tmod t497 (t486.length : Int)) + (Int.tmod t498 (wrap64 ((t486.length : Int) - (Int.tmod t497 (t486.length : Int)))))))).f0) - ((rd_T38 t486 (Int.tmod t497 (t486.length : Int))).f0)))).bind fun t509 => (some t509)) else (none)) else (none)) else (none)) else (none)) else (some true)) else (some false))))))) = some r := H
         have A39 := zM A390
         clear A390
         by_cases c40 : (t486.length : Int) = 0
         ·rw [if_pos c40] at H
          exact absurd H (by simp)
         ·rw [if_neg c40] at H
          have c40b0 : ((t486.length : Int) == 0) = false := beq_eq_false_iff_ne.mpr c40
          have c40b1 : ((t486.length : Int) != 0) = true := bne_iff_ne.mpr c40
          have c40b2 : ¬ (t486 = []) := fun h_ => c40 (by rw [h_]; rfl)
          replace H := zO H
          obtain ⟨t498, A410, H⟩ := H
          replace H : (if (wrap64 ((t486.length : Int) - (Int.tmod t497 (t486.length : Int)))) = 0 then (none) else ((impl_ElapsedAt.f kj24 t478 t479 t486 (Int.tmod t497 (t486.length : Int)) (wrap64 ((Int.tmod t497 (t486.length : Int)) + (Int.tmod t498 (wrap64 ((t486.length : Int) - (Int.tmod t497 (t486.length : Int)))))))).bind fun bt499 => ((spec_ElapsedAt.f kj24 t478 t479 t490 (Int.tmod t497 (t486.length : Int)) (wrap64 ((Int.tmod t497 (t486.length : Int)) + (Int.tmod t498 (wrap64 ((t486.length : Int) - (Int.tmod t497 (t486.length : Int)))))))).bind fun bt503 => (if (bt499.2.2 == bt503.2.2) = true then (if bt499.2.2 = true then (if 0 ≤ (wrap64 ((Int.tmod t497 (t486.length : Int)) + (Int.tmod t498 (wrap64 ((t486.length : Int) - (Int.tmod t497 (t486.length : Int))))))) then (if (wrap64 ((Int.tmod t497 (t486.length : Int)) + (Int.tmod t498 (wrap64 ((t486.length : Int) - (Int.tmod t497 (t486.length : Int))))))) < (t486.length : Int) then (if 0 ≤ (Int.tmod t497 (t486.length : Int)) then (if (Int.tmod t497 (t486.length : Int)) < (t486.length : Int) then ((impl_Holds.f bt499.1 bt499.2.1 (wrap64 (((rd_T38 t486 (wrap64 ((Int.tmod t497 (t486.length : Int)) + (Int.tmod t498 (wrap64 ((t486.length : Int) - (Int.tmod t497 (t486.length : Int)))))))).f0) - ((rd_T38 t486 (Int.tmod t497 (t486.length : Int))).f0)))).bind fun t509 => (some t509)) else (none)) else (none)) else (none)) else (none)) else (some true)) else (some false))))) = some r := H
          have A41 := zM A410
          clear A410
          by_cases c42 : (wrap64 ((t486.length : Int) - (Int.tmod t497 (t486.length : Int)))) = 0
          ·rw [if_pos c42] at H
           exact absurd H (by simp)
          ·rw [if_neg c42] at H
           have c42b0 : ((wrap64 ((t486.length : Int) - (Int.tmod t497 (t486.length : Int)))) == 0) = false := beq_eq_false_iff_ne.mpr c42
           have c42b1 : ((wrap64 ((t486.length : Int) - (Int.tmod t497 (t486.length : Int)))) != 0) = true := bne_iff_ne.mpr c42
           replace H := zO H
           obtain ⟨⟨t499, t500, t501⟩, A430, H⟩ := H
           replace H : ((spec_ElapsedAt.f kj24 t478 t479 t490 (Int.tmod t497 (t486.length : Int)) (wrap64 ((Int.tmod t497 (t486.length : Int)) + (Int.tmod t498 (wrap64 ((t486.length : Int) - (Int.tmod t497 (t486.length : Int)))))))).bind fun bt503 => (if (t501 == bt503.2.2) = true then (if t501 = true then (if 0 ≤ (wrap64 ((Int.tmod t497 (t486.length : Int)) + (Int.tmod t498 (wrap64 ((t486.length : Int) - (Int.tmod t497 (t486.length : Int))))))) then (if (wrap64 ((Int.tmod t497 (t486.length : Int)) + (Int.tmod t498 (wrap64 ((t486.length : Int) - (Int.tmod t497 (t486.length : Int))))))) < (t486.length : Int) then (if 0 ≤ (Int.tmod t497 (t486.length : Int)) then (if (Int.tmod t497 (t486.length : Int)) < (t486.length : Int) then ((impl_Holds.f t499 t500 (wrap64 (((rd_T38 t486 (wrap64 ((Int.tmod t497 (t486.length : Int)) + (Int.tmod t498 (wrap64 ((t486.length : Int) - (Int.tmod t497 (t486.length : Int)))))))).f0) - ((rd_T38 t486 (Int.tmod t497 (t486.length : Int))).f0)))).bind fun t509 => (some t509)) else (none)) else (none)) else (none)) else (none)) else (some true)) else (some false))) = some r := H
           have A43 := zM A430
           clear A430
           replace H := zO H
           obtain ⟨⟨t503, t504, t505⟩, A440, H⟩ := H
           replace H : (if (t501 == t505) = true then (if t501 = true then (if 0 ≤ (wrap64 ((Int.tmod t497 (t486.length : Int)) + (Int.tmod t498 (wrap64 ((t486.length : Int) - (Int.tmod t497 (t486.length : Int))))))) then (if (wrap64 ((Int.tmod t497 (t486.length : Int)) + (Int.tmod t498 (wrap64 ((t486.length : Int) - (Int.tmod t497 (t486.length : Int))))))) < (t486.length : Int) then (if 0 ≤ (Int.tmod t497 (t486.length : Int)) then (if (Int.tmod t497 (t486.length : Int)) < (t486.length : Int) then ((impl_Holds.f t499 t500 (wrap64 (((rd_T38 t486 (wrap64 ((Int.tmod t497 (t486.length : Int)) + (Int.tmod t498 (wrap64 ((t486.length : Int) - (Int.tmod t497 (t486.length : Int)))))))).f0) - ((rd_T38 t486 (Int.tmod t497 (t486.length : Int))).f0)))).bind fun t509 => (some t509)) else (none)) else (none)) else (none)) else (none)) else (some true)) else (some false)) = some r := H
           have A44 := zM A440
           clear A440
           by_cases c45 : (t501 == t505) = true
           ·rw [if_pos c45] at H
            have c45b0 : (t501 == t505) = true := c45
            (try (have c45b1 : decide (t501 = t505) = true := by simpa using c45))
            (try (have c45b2 : (t501 == t505) = true := by simpa using c45))
            clear c45
            by_cases c46 : t501 = true
            ·subst c46
             have H1 : (if 0 ≤ (wrap64 ((Int.tmod t497 (t486.length : Int)) + (Int.tmod t498 (wrap64 ((t486.length : Int) - (Int.tmod t497 (t486.length : Int))))))) then (if (wrap64 ((Int.tmod t497 (t486.length : Int)) + (Int.tmod t498 (wrap64 ((t486.length : Int) - (Int.tmod t497 (t486.length : Int))))))) < (t486.length : Int) then (if 0 ≤ (Int.tmod t497 (t486.length : Int)) then (if (Int.tmod t497 (t486.length : Int)) < (t486.length : Int) then ((impl_Holds.f t499 t500 (wrap64 (((rd_T38 t486 (wrap64 ((Int.tmod t497 (t486.length : Int)) + (Int.tmod t498 (wrap64 ((t486.length : Int) - (Int.tmod t497 (t486.length : Int)))))))).f0) - ((rd_T38 t486 (Int.tmod t497 (t486.length : Int))).f0)))).bind fun t509 => (some t509)) else (none)) else (none)) else (none)) else (none)) = some r := by rw [if_pos rfl] at H; exact H
             clear H
             have H := H1
             clear H1
             obtain ⟨ji47, hji47⟩ : ∃ j_ : Int, (wrap64 ((Int.tmod t497 (t486.length : Int)) + (Int.tmod t498 (wrap64 ((t486.length : Int) - (Int.tmod t497 (t486.length : Int))))))) = j_ := ⟨_, rfl⟩
             replace H : (if 0 ≤ (ji47) then (if (ji47) < (t486.length : Int) then (if 0 ≤ (Int.tmod t497 (t486.length : Int)) then (if (Int.tmod t497 (t486.length : Int)) < (t486.length : Int) then ((impl_Holds.f t499 t500 (wrap64 (((rd_T38 t486 (ji47)).f0) - ((rd_T38 t486 (Int.tmod t497 (t486.length : Int))).f0)))).bind fun t509 => (some t509)) else (none)) else (none)) else (none)) else (none)) = some r := by first | (rw [hji47] at H; exact H) | (simp only [hji47] at H ⊢; exact H)
             (try rw [hji47] at A39)
             (try rw [hji47] at A41)
             (try rw [hji47] at A43)
             (try rw [hji47] at A44)
             have hji47w : (IntKind.i64.wrap ((Int.tmod t497 (t486.length : Int)) + (Int.tmod t498 (wrap64 ((t486.length : Int) - (Int.tmod t497 (t486.length : Int))))))) = ji47 := (i64_w _).trans hji47
             by_cases c48 : 0 ≤ (ji47)
             ·rw [if_pos c48] at H
              have c48b0 : decide (0 ≤ (ji47)) = true := decide_eq_true c48
              clear c48
              by_cases c49 : (ji47) < (t486.length : Int)
              ·rw [if_pos c49] at H
               have c49b0 : decide ((ji47) < (t486.length : Int)) = true := decide_eq_true c49
               clear c49
               obtain ⟨ji50, hji50⟩ : ∃ j_ : Int, (Int.tmod t497 (t486.length : Int)) = j_ := ⟨_, rfl⟩
               replace H : (if 0 ≤ (ji50) then (if (ji50) < (t486.length : Int) then ((impl_Holds.f t499 t500 (wrap64 (((rd_T38 t486 (ji47)).f0) - ((rd_T38 t486 (ji50)).f0)))).bind fun t509 => (some t509)) else (none)) else (none)) = some r := by first | (rw [hji50] at H; exact H) | (simp only [hji50] at H ⊢; exact H)
               (try rw [hji50] at c42)
               (try rw [hji50] at hji47)
               (try rw [hji50] at hji47w)
               (try rw [hji50] at c42b0)
               (try rw [hji50] at c42b1)
               (try rw [hji50] at A39)
               (try rw [hji50] at A41)
               (try rw [hji50] at A43)
               (try rw [hji50] at A44)
               by_cases c51 : 0 ≤ (ji50)
               ·rw [if_pos c51] at H
                have c51b0 : decide (0 ≤ (ji50)) = true := decide_eq_true c51
                clear c51
                by_cases c52 : (ji50) < (t486.length : Int)
                ·rw [if_pos c52] at H
                 have c52b0 : decide ((ji50) < (t486.length : Int)) = true := decide_eq_true c52
                 clear c52
                 replace H := zO H
                 obtain ⟨t509, A530, H⟩ := H
                 replace H : (some t509) = some r := H
                 have A53 := zM A530
                 clear A530
                 obtain rfl := Option.some.inj H
                 simp only [zI, zJ] at H
                 obtain ⟨rfl⟩ := H
                 try go_wp2_with (first | ((with_reducible refine gate_callee (f := 39) rfl ?_); refine goesL_ (some 65) rfl rfl Try.func39 (by kernel_rfl) rfl #[.slice A0 l0.length c0, .int .i64 1] rfl (by (try simp only [List.map_toArray, List.map_cons, List.map_nil]); first | done | rfl) ?_; (with_reducible refine (laws_at.calls _ _ l0 1 t497 _ ?side1 ?side2 A39.out).mono ?_); (case side1 => repeat (first | exact (Kd.C_below HR0.out HB.out) | (with_reducible refine Kd.C_alloc ?_ _) | (with_reducible refine Kd.C_drewN ?_ _) | (with_reducible refine Kd.C_drew ?_))); (case side2 => exact HC0.out); rintro e w' ⟨rfl, ⟨nd, rfl⟩⟩; refine ⟨_, rfl, ?_⟩; (try (rw [drewN_self wc]; generalize hq_ : World.drewN wc _ = wc; have n0_ : Aside0 (Kd.R k38 38 wc w.heap.size (fun k_ => some k_ ≠ (.slice Ao26 t490.length co26 : Value).ownBlock) v487 t486) := ⟨by rw [← hq_]; exact (by (with_reducible repeat (first | apply Kd.R_alloc | apply Kd.R_drewN | apply Kd.R_drew)); exact HO_5.out)⟩; have n1_ : Aside0 (Kd.R k38 38 wc w.heap.size (fun k_ => some k_ ≠ (v487 : Value).ownBlock) (.slice Ao26 t490.length co26) t490) := ⟨by rw [← hq_]; exact (by (with_reducible repeat (first | apply Kd.R_alloc | apply Kd.R_drewN | apply Kd.R_drew)); exact HO_7.out)⟩; have n2_ : Aside0 (wc.heap[gb485]? = some (.cells #[.int .i64 t478, .int .i64 t479, .int .i64 t480, .int .i64 t481] 54 (0, 0))) := ⟨by rw [← hq_]; exact (by (with_reducible repeat (first | refine bA ?_ _ | refine bB ?_ | refine bC ?_ _)); exact BK485.out)⟩; have n3_ : Aside0 (Below w.heap.size w wc) := ⟨by rw [← hq_]; exact (by repeat (first | (with_reducible first | exact HB.out | apply bE | apply bD | apply bF | refine below_set ?_ GE485.out) | exact HB.out))⟩; clear HO_5 HO_7 BK485 HB hq_; have HO_5 := n0_; have HO_7 := n1_; have BK485 := n2_; have HB := n3_; clear n0_ n1_ n2_ n3_)); obtain ⟨Ao54, co54, eo54⟩ := Kd.R_slice HO_5.out; subst eo54) | ((with_reducible refine gate_callee (f := 39) rfl ?_); refine goesL_ (some 71) rfl rfl Try.func39 (by kernel_rfl) rfl #[.slice A0 l0.length c0, .int .i64 2] rfl (by (try simp only [List.map_toArray, List.map_cons, List.map_nil]); first | done | rfl) ?_; (with_reducible refine (laws_at.calls _ _ l0 2 t498 _ ?side1 ?side2 A41.out).mono ?_); (case side1 => repeat (first | exact (Kd.C_below HR0.out HB.out) | (with_reducible refine Kd.C_alloc ?_ _) | (with_reducible refine Kd.C_drewN ?_ _) | (with_reducible refine Kd.C_drew ?_))); (case side2 => exact HC0.out); rintro e w' ⟨rfl, ⟨nd, rfl⟩⟩; refine ⟨_, rfl, ?_⟩; (try (rw [drewN_self wc]; generalize hq_ : World.drewN wc _ = wc; have n0_ : Aside0 (Kd.R k38 38 wc w.heap.size (fun k_ => some k_ ≠ (.slice Ao26 t490.length co26 : Value).ownBlock) (.slice Ao54 t486.length co54) t486) := ⟨by rw [← hq_]; exact (by (with_reducible repeat (first | apply Kd.R_alloc | apply Kd.R_drewN | apply Kd.R_drew)); exact HO_5.out)⟩; have n1_ : Aside0 (Kd.R k38 38 wc w.heap.size (fun k_ => some k_ ≠ (.slice Ao54 t486.length co54 : Value).ownBlock) (.slice Ao26 t490.length co26) t490) := ⟨by rw [← hq_]; exact (by (with_reducible repeat (first | apply Kd.R_alloc | apply Kd.R_drewN | apply Kd.R_drew)); exact HO_7.out)⟩; have n2_ : Aside0 (wc.heap[gb485]? = some (.cells #[.int .i64 t478, .int .i64 t479, .int .i64 t480, .int .i64 t481] 54 (0, 0))) := ⟨by rw [← hq_]; exact (by (with_reducible repeat (first | refine bA ?_ _ | refine bB ?_ | refine bC ?_ _)); exact BK485.out)⟩; have n3_ : Aside0 (Below w.heap.size w wc) := ⟨by rw [← hq_]; exact (by repeat (first | (with_reducible first | exact HB.out | apply bE | apply bD | apply bF | refine below_set ?_ GE485.out) | exact HB.out))⟩; clear HO_5 HO_7 BK485 HB hq_; have HO_5 := n0_; have HO_7 := n1_; have BK485 := n2_; have HB := n3_; clear n0_ n1_ n2_ n3_)); have hcz55_0 : wc.cell? ⟨gb485, 0, none⟩ = some (.int .i64 t478) := (blk_cell BK485.out 0).trans rfl; have hcz55_1 : wc.cell? ⟨gb485, 1, none⟩ = some (.int .i64 t479) := (blk_cell BK485.out 1).trans rfl; have hcz55_2 : wc.cell? ⟨gb485, 2, none⟩ = some (.int .i64 t480) := (blk_cell BK485.out 2).trans rfl; have hcz55_3 : wc.cell? ⟨gb485, 3, none⟩ = some (.int .i64 t481) := (blk_cell BK485.out 3).trans rfl; have hfz55_0 := blk_frozen BK485.out 0; have hfz55_1 := blk_frozen BK485.out 1; have hfz55_2 := blk_frozen BK485.out 2; have hfz55_3 := blk_frozen BK485.out 3) | ((with_reducible refine gate_callee (f := 23) rfl ?_); refine goesL_ (some 84) rfl rfl Try.func23 (by kernel_rfl) rfl #[.agg #[.int .i64 t478, .int .i64 t479], .slice Ao54 t486.length co54, .int .i64 ji50, .int .i64 ji47] rfl (by (try simp only [List.map_toArray, List.map_cons, List.map_nil]); first | done | (simp only [hji47, hji50]; rfl) | rfl | (simp only [List.length_drop, List.length_take]; rfl)) ?_; (with_reducible refine (impl_ElapsedAt.calls kj24 t478 t479 _ _ t486 ji50 ji47 t499 t500 true _ ?side1 ?side2 A43.out).mono ?_); (case side1 => repeat (first | exact (Kd.R_reads' HO_5.out).2.2 | (with_reducible refine Kd.C_alloc ?_ _) | (with_reducible refine Kd.C_drewN ?_ _) | (with_reducible refine Kd.C_drew ?_))); (case side2 => exact (Kd.R_reads' HO_5.out).2.1); rintro e w56 ⟨rfl, hb⟩; refine ⟨_, rfl, ?_⟩; have n0_ := zM (Kd.R_below (by (with_reducible repeat (first | apply Kd.R_alloc | apply Kd.R_drewN | apply Kd.R_drew)); exact HO_5.out) hb); have n1_ := zM (Kd.R_below (by (with_reducible repeat (first | apply Kd.R_alloc | apply Kd.R_drewN | apply Kd.R_drew)); exact HO_7.out) hb); have n2_ := zM (blk_below (g := gb485) (o := .cells #[.int .i64 t478, .int .i64 t479, .int .i64 t480, .int .i64 t481] 54 (0, 0)) (by (with_reducible repeat (first | refine bA ?_ _ | refine bB ?_ | refine bC ?_ _)); exact BK485.out) hb); have n3_ := zM (bG (by repeat (first | (with_reducible first | exact HB.out | apply bE | apply bD | apply bF | refine below_set ?_ GE485.out) | exact HB.out)) hb); clear HO_5; clear HO_7; clear BK485; clear HB; have HO_5 := n0_; have HO_7 := n1_; have BK485 := n2_; have HB := n3_; clear n0_ n1_ n2_ n3_; (try clear hb); (try clear hk); (try clear hi)) | ((with_reducible refine gate_dst (N := 11) rfl ?_); (try (refine gate_guard (by rfl) ?_; dsimp only)); refine box_event ?hg (N := 11) ?hd (cs := #[.int .i64 0, .int .i64 0]) (t := 40) ?hr ?_; (case hd => rfl); (case hg => rfl); (case hr => first | (go_simp; done) | (go_simp; rfl)); intro gb502 hg w57 hbox hb; have n0_ := zM (Kd.R_below (by (with_reducible repeat (first | apply Kd.R_alloc | apply Kd.R_drewN | apply Kd.R_drew)); exact HO_5.out) hb); have n1_ := zM (Kd.R_below (by (with_reducible repeat (first | apply Kd.R_alloc | apply Kd.R_drewN | apply Kd.R_drew)); exact HO_7.out) hb); have n2_ := zM (blk_below (g := gb485) (o := .cells #[.int .i64 t478, .int .i64 t479, .int .i64 t480, .int .i64 t481] 54 (0, 0)) (by (with_reducible repeat (first | refine bA ?_ _ | refine bB ?_ | refine bC ?_ _)); exact BK485.out) hb); have n3_ := zM (bG (by repeat (first | (with_reducible first | exact HB.out | apply bE | apply bD | apply bF | refine below_set ?_ GE485.out) | exact HB.out)) hb); have n4_ := zM (hbox); have n5_ := zM ((by rw [hg]; exact (below_size (by repeat (first | (with_reducible first | exact HB.out | apply bE | apply bD | apply bF | refine below_set ?_ GE485.out) | exact HB.out))) : w.heap.size ≤ gb502)); have n6_ := zM ((by rw [hg]; exact (below_size (by repeat (first | (with_reducible first | exact HB.out | apply bE | apply bD | apply bF | refine below_set ?_ GE485.out) | exact HB.out))) : w.heap.size ≤ gb502)); have n7_ := zM ((by rw [hg]; exact Nat.ne_of_lt (blk_lt (g := gb485) (o := .cells #[.int .i64 t478, .int .i64 t479, .int .i64 t480, .int .i64 t481] 54 (0, 0)) (by (with_reducible repeat (first | refine bA ?_ _ | refine bB ?_ | refine bC ?_ _)); exact BK485.out)) : gb485 ≠ gb502)); have n8_ := zM ((by rw [hg]; exact Nat.ne_of_gt (blk_lt (g := gb485) (o := .cells #[.int .i64 t478, .int .i64 t479, .int .i64 t480, .int .i64 t481] 54 (0, 0)) (by (with_reducible repeat (first | refine bA ?_ _ | refine bB ?_ | refine bC ?_ _)); exact BK485.out)) : gb502 ≠ gb485)); clear HO_5; clear HO_7; clear BK485; clear HB; have HO_5 := n0_; have HO_7 := n1_; have BK485 := n2_; have HB := n3_; have BK502 := n4_; have GW502 := n5_; have GE502 := n6_; have NB485_502 := n7_; have NB502_485 := n8_; clear n0_ n1_ n2_ n3_ n4_ n5_ n6_ n7_ n8_; clear hb hbox hg; have hnb58 := NB502_485.out; have hnc58 := NB485_502.out; have hcz59_0 : w57.cell? ⟨gb502, 0, none⟩ = some (.int .i64 0) := (blk_cell BK502.out 0).trans rfl; have hcz59_1 : w57.cell? ⟨gb502, 1, none⟩ = some (.int .i64 0) := (blk_cell BK502.out 1).trans rfl; have hfz59_0 := blk_frozen BK502.out 0; have hfz59_1 := blk_frozen BK502.out 1; have hcz60_0 : w57.cell? ⟨gb485, 0, none⟩ = some (.int .i64 t478) := (blk_cell BK485.out 0).trans rfl; have hcz60_1 : w57.cell? ⟨gb485, 1, none⟩ = some (.int .i64 t479) := (blk_cell BK485.out 1).trans rfl; have hcz60_2 : w57.cell? ⟨gb485, 2, none⟩ = some (.int .i64 t480) := (blk_cell BK485.out 2).trans rfl; have hcz60_3 : w57.cell? ⟨gb485, 3, none⟩ = some (.int .i64 t481) := (blk_cell BK485.out 3).trans rfl; have hfz60_0 := blk_frozen BK485.out 0; have hfz60_1 := blk_frozen BK485.out 1; have hfz60_2 := blk_frozen BK485.out 2; have hfz60_3 := blk_frozen BK485.out 3) | ((with_reducible refine gate_callee (f := 22) rfl ?_); refine goesL_ (some 93) rfl rfl Try.func22 (by kernel_rfl) rfl #[.agg #[.int .i64 t478, .int .i64 t479], .slice Ao26 t490.length co26, .int .i64 ji50, .int .i64 ji47] rfl (by (try simp only [List.map_toArray, List.map_cons, List.map_nil]); first | done | (simp only [hji47, hji50]; rfl) | rfl | (simp only [List.length_drop, List.length_take]; rfl)) ?_; (with_reducible refine (spec_ElapsedAt.calls kj24 t478 t479 _ _ t490 ji50 ji47 t503 t504 t505 _ ?side1 ?side2 A44.out).mono ?_); (case side1 => refine (Kd.R_reads' (e := 38) (base := w.heap.size) (ok := fun k_ => some k_ ≠ (.slice Ao54 t486.length co54 : Value).ownBlock) (n := t490.length) (c := co26) ?_).2.2; exact (by (with_reducible repeat (first | apply Kd.R_alloc | apply Kd.R_drewN | apply Kd.R_drew)); exact (Kd.R_mono (Kd.R_far (p := ⟨gb502, 1, none⟩) (Kd.R_far (p := ⟨gb502, 0, none⟩) (Kd.R_types HO_7.out BK502.out (by decide)) (fun _ hk => hk.2) (.int .i64 t499)) (fun _ hk => hk.2) (.int .i64 t500)) (fun _ h_ => h_.1)))); (case side2 => exact (Kd.R_reads' HO_7.out).2.1); rintro e w61 ⟨rfl, hb⟩; refine ⟨_, rfl, ?_⟩; have n0_ := zM (Kd.R_below (by (with_reducible repeat (first | apply Kd.R_alloc | apply Kd.R_drewN | apply Kd.R_drew)); exact (Kd.R_mono (Kd.R_far (p := ⟨gb502, 1, none⟩) (Kd.R_far (p := ⟨gb502, 0, none⟩) (Kd.R_types HO_5.out BK502.out (by decide)) (fun _ hk => hk.2) (.int .i64 t499)) (fun _ hk => hk.2) (.int .i64 t500)) (fun _ h_ => h_.1))) hb); have n1_ := zM (Kd.R_below (by (with_reducible repeat (first | apply Kd.R_alloc | apply Kd.R_drewN | apply Kd.R_drew)); exact (Kd.R_mono (Kd.R_far (p := ⟨gb502, 1, none⟩) (Kd.R_far (p := ⟨gb502, 0, none⟩) (Kd.R_types HO_7.out BK502.out (by decide)) (fun _ hk => hk.2) (.int .i64 t499)) (fun _ hk => hk.2) (.int .i64 t500)) (fun _ h_ => h_.1))) hb); have n2_ := zM (blk_below (g := gb485) (o := .cells #[.int .i64 t478, .int .i64 t479, .int .i64 t480, .int .i64 t481] 54 (0, 0)) (by (with_reducible repeat (first | refine bA ?_ _ | refine bB ?_ | refine bC ?_ _)); refine blk_far ?_ NB485_502.out _; (with_reducible repeat (first | refine bA ?_ _ | refine bB ?_ | refine bC ?_ _)); refine blk_far ?_ NB485_502.out _; (with_reducible repeat (first | refine bA ?_ _ | refine bB ?_ | refine bC ?_ _)); exact BK485.out) hb); have n3_ := zM (blk_below (g := gb502) (o := .cells #[.int .i64 t499, .int .i64 t500] 40 (0, 0)) (by (with_reducible repeat (first | refine bA ?_ _ | refine bB ?_ | refine bC ?_ _)); refine bH (cs := #[.int .i64 t499, .int .i64 0]) ?_ 1 _ rfl; (with_reducible repeat (first | refine bA ?_ _ | refine bB ?_ | refine bC ?_ _)); refine bH (cs := #[.int .i64 0, .int .i64 0]) ?_ 0 _ rfl; (with_reducible repeat (first | refine bA ?_ _ | refine bB ?_ | refine bC ?_ _)); exact BK502.out) hb); have n4_ := zM (bG (by repeat (first | (with_reducible first | exact HB.out | apply bE | apply bD | apply bF | refine below_set ?_ GE485.out | refine below_set ?_ GE502.out) | exact HB.out)) hb); clear HO_5; clear HO_7; clear BK485; clear BK502; clear HB; have HO_5 := n0_; have HO_7 := n1_; have BK485 := n2_; have BK502 := n3_; have HB := n4_; clear n0_ n1_ n2_ n3_ n4_; (try clear hb); (try clear hk); (try clear hi)) | ((with_reducible refine gate_dst (N := 13) rfl ?_); (try (refine gate_guard (by rfl) ?_; dsimp only)); refine box_event ?hg (N := 13) ?hd (cs := #[.int .i64 0, .int .i64 0]) (t := 40) ?hr ?_; (case hd => rfl); (case hg => rfl); (case hr => first | (go_simp; done) | (go_simp; rfl)); intro gb506 hg w62 hbox hb; have n0_ := zM (Kd.R_below (by (with_reducible repeat (first | apply Kd.R_alloc | apply Kd.R_drewN | apply Kd.R_drew)); exact HO_5.out) hb); have n1_ := zM (Kd.R_below (by (with_reducible repeat (first | apply Kd.R_alloc | apply Kd.R_drewN | apply Kd.R_drew)); exact HO_7.out) hb); have n2_ := zM (blk_below (g := gb485) (o := .cells #[.int .i64 t478, .int .i64 t479, .int .i64 t480, .int .i64 t481] 54 (0, 0)) (by (with_reducible repeat (first | refine bA ?_ _ | refine bB ?_ | refine bC ?_ _)); exact BK485.out) hb); have n3_ := zM (blk_below (g := gb502) (o := .cells #[.int .i64 t499, .int .i64 t500] 40 (0, 0)) (by (with_reducible repeat (first | refine bA ?_ _ | refine bB ?_ | refine bC ?_ _)); exact BK502.out) hb); have n4_ := zM (bG (by repeat (first | (with_reducible first | exact HB.out | apply bE | apply bD | apply bF | refine below_set ?_ GE485.out | refine below_set ?_ GE502.out) | exact HB.out)) hb); have n5_ := zM (hbox); have n6_ := zM ((by rw [hg]; exact (below_size (by repeat (first | (with_reducible first | exact HB.out | apply bE | apply bD | apply bF | refine below_set ?_ GE485.out | refine below_set ?_ GE502.out) | exact HB.out))) : w.heap.size ≤ gb506)); have n7_ := zM ((by rw [hg]; exact (below_size (by repeat (first | (with_reducible first | exact HB.out | apply bE | apply bD | apply bF | refine below_set ?_ GE485.out | refine below_set ?_ GE502.out) | exact HB.out))) : w.heap.size ≤ gb506)); have n8_ := zM ((by rw [hg]; exact Nat.ne_of_lt (blk_lt (g := gb485) (o := .cells #[.int .i64 t478, .int .i64 t479, .int .i64 t480, .int .i64 t481] 54 (0, 0)) (by (with_reducible repeat (first | refine bA ?_ _ | refine bB ?_ | refine bC ?_ _)); exact BK485.out)) : gb485 ≠ gb506)); have n9_ := zM ((by rw [hg]; exact Nat.ne_of_gt (blk_lt (g := gb485) (o := .cells #[.int .i64 t478, .int .i64 t479, .int .i64 t480, .int .i64 t481] 54 (0, 0)) (by (with_reducible repeat (first | refine bA ?_ _ | refine bB ?_ | refine bC ?_ _)); exact BK485.out)) : gb506 ≠ gb485)); have n10_ := zM ((by rw [hg]; exact Nat.ne_of_lt (blk_lt (g := gb502) (o := .cells #[.int .i64 t499, .int .i64 t500] 40 (0, 0)) (by (with_reducible repeat (first | refine bA ?_ _ | refine bB ?_ | refine bC ?_ _)); exact BK502.out)) : gb502 ≠ gb506)); have n11_ := zM ((by rw [hg]; exact Nat.ne_of_gt (blk_lt (g := gb502) (o := .cells #[.int .i64 t499, .int .i64 t500] 40 (0, 0)) (by (with_reducible repeat (first | refine bA ?_ _ | refine bB ?_ | refine bC ?_ _)); exact BK502.out)) : gb506 ≠ gb502)); clear HO_5; clear HO_7; clear BK485; clear BK502; clear HB; have HO_5 := n0_; have HO_7 := n1_; have BK485 := n2_; have BK502 := n3_; have HB := n4_; have BK506 := n5_; have GW506 := n6_; have GE506 := n7_; have NB485_506 := n8_; have NB506_485 := n9_; have NB502_506 := n10_; have NB506_502 := n11_; clear n0_ n1_ n2_ n3_ n4_ n5_ n6_ n7_ n8_ n9_ n10_ n11_; clear hb hbox hg; have hnb63 := NB506_485.out; have hnc63 := NB485_506.out; have hnb64 := NB506_502.out; have hnc64 := NB502_506.out; have hcz65_0 : w62.cell? ⟨gb506, 0, none⟩ = some (.int .i64 0) := (blk_cell BK506.out 0).trans rfl; have hcz65_1 : w62.cell? ⟨gb506, 1, none⟩ = some (.int .i64 0) := (blk_cell BK506.out 1).trans rfl; have hfz65_0 := blk_frozen BK506.out 0; have hfz65_1 := blk_frozen BK506.out 1))
                 have n0_ : Aside0 (Kd.R k38 38 ((w62.setCell ⟨gb506, 0, none⟩ (.int .i64 t503)).setCell ⟨gb506, 1, none⟩ (.int .i64 t504)) w.heap.size (fun k_ => some k_ ≠ (.slice Ao26 t490.length co26 : Value).ownBlock) (.slice Ao54 t486.length co54) t486) := ⟨by (with_reducible repeat (first | apply Kd.R_alloc | apply Kd.R_drewN | apply Kd.R_drew)); exact Kd.R_mono (Kd.R_far (p := ⟨gb506, 1, none⟩) (Kd.R_far (p := ⟨gb506, 0, none⟩) (Kd.R_types HO_5.out BK506.out (by decide)) (fun _ hk => hk.2) (.int .i64 t503)) (fun _ hk => hk.2) (.int .i64 t504)) (fun _ hk => hk.1)⟩
                 have n1_ : Aside0 (Kd.R k38 38 ((w62.setCell ⟨gb506, 0, none⟩ (.int .i64 t503)).setCell ⟨gb506, 1, none⟩ (.int .i64 t504)) w.heap.size (fun k_ => some k_ ≠ (.slice Ao54 t486.length co54 : Value).ownBlock) (.slice Ao26 t490.length co26) t490) := ⟨by (with_reducible repeat (first | apply Kd.R_alloc | apply Kd.R_drewN | apply Kd.R_drew)); exact Kd.R_mono (Kd.R_far (p := ⟨gb506, 1, none⟩) (Kd.R_far (p := ⟨gb506, 0, none⟩) (Kd.R_types HO_7.out BK506.out (by decide)) (fun _ hk => hk.2) (.int .i64 t503)) (fun _ hk => hk.2) (.int .i64 t504)) (fun _ hk => hk.1)⟩
                 have n2_ : Aside0 (((w62.setCell ⟨gb506, 0, none⟩ (.int .i64 t503)).setCell ⟨gb506, 1, none⟩ (.int .i64 t504)).heap[gb485]? = some (.cells #[.int .i64 t478, .int .i64 t479, .int .i64 t480, .int .i64 t481] 54 (0, 0))) := ⟨by (with_reducible repeat (first | refine bA ?_ _ | refine bB ?_ | refine bC ?_ _)); refine blk_far ?_ NB485_506.out _; (with_reducible repeat (first | refine bA ?_ _ | refine bB ?_ | refine bC ?_ _)); refine blk_far ?_ NB485_506.out _; (with_reducible repeat (first | refine bA ?_ _ | refine bB ?_ | refine bC ?_ _)); exact BK485.out⟩
                 have n3_ : Aside0 (((w62.setCell ⟨gb506, 0, none⟩ (.int .i64 t503)).setCell ⟨gb506, 1, none⟩ (.int .i64 t504)).heap[gb502]? = some (.cells #[.int .i64 t499, .int .i64 t500] 40 (0, 0))) := ⟨by (with_reducible repeat (first | refine bA ?_ _ | refine bB ?_ | refine bC ?_ _)); refine blk_far ?_ NB502_506.out _; (with_reducible repeat (first | refine bA ?_ _ | refine bB ?_ | refine bC ?_ _)); refine blk_far ?_ NB502_506.out _; (with_reducible repeat (first | refine bA ?_ _ | refine bB ?_ | refine bC ?_ _)); exact BK502.out⟩
                 have n4_ : Aside0 (((w62.setCell ⟨gb506, 0, none⟩ (.int .i64 t503)).setCell ⟨gb506, 1, none⟩ (.int .i64 t504)).heap[gb506]? = some (.cells #[.int .i64 t503, .int .i64 t504] 40 (0, 0))) := ⟨by (with_reducible repeat (first | refine bA ?_ _ | refine bB ?_ | refine bC ?_ _)); refine bH (cs := #[.int .i64 t503, .int .i64 0]) ?_ 1 _ rfl; (with_reducible repeat (first | refine bA ?_ _ | refine bB ?_ | refine bC ?_ _)); refine bH (cs := #[.int .i64 0, .int .i64 0]) ?_ 0 _ rfl; (with_reducible repeat (first | refine bA ?_ _ | refine bB ?_ | refine bC ?_ _)); exact BK506.out⟩
                 have n5_ : Aside0 (Below w.heap.size w ((w62.setCell ⟨gb506, 0, none⟩ (.int .i64 t503)).setCell ⟨gb506, 1, none⟩ (.int .i64 t504))) := ⟨by repeat (first | (with_reducible first | exact HB.out | apply bE | apply bD | apply bF | refine below_set ?_ GE485.out | refine below_set ?_ GE502.out | refine below_set ?_ GE506.out) | exact HB.out)⟩
                 (try clear HO_5)
                 (try clear HO_7)
                 (try clear BK485)
                 (try clear BK502)
                 (try clear BK506)
                 (try clear HB)
                 generalize ((w62.setCell ⟨gb506, 0, none⟩ (.int .i64 t503)).setCell ⟨gb506, 1, none⟩ (.int .i64 t504)) = w66 at n0_ n1_ n2_ n3_ n4_ n5_ ⊢
                 have HO_5 := n0_
                 have HO_7 := n1_
                 have BK485 := n2_
                 have BK502 := n3_
                 have BK506 := n4_
                 have HB := n5_
                 clear n0_ n1_ n2_ n3_ n4_ n5_
                 have n0_ := zM (Kd.R_drew HO_5.out)
                 have n1_ := zM (Kd.R_drew HO_7.out)
                 have n2_ := zM (bB BK485.out)
                 have n3_ := zM (bB BK502.out)
                 have n4_ := zM (bB BK506.out)
                 have n5_ := zM (bF HB.out)
                 clear HO_5
                 clear HO_7
                 clear BK485
                 clear BK502
                 clear BK506
                 clear HB
                 have HO_5 := n0_
                 have HO_7 := n1_
                 have BK485 := n2_
                 have BK502 := n3_
                 have BK506 := n4_
                 have HB := n5_
                 clear n0_ n1_ n2_ n3_ n4_ n5_
                 have p507 : 0 ≤ ((ji47) : Int) := of_decide_eq_true (by first | (with_reducible assumption) | assumption)
                 have q507 : (ji47) < (t486.length : Int) := of_decide_eq_true (by first | (with_reducible assumption) | assumption)
                 obtain ⟨ad507, e507, hx507_0, hx507_1⟩ := at_T38 (Kd.R_reads' HO_5.out).2.2 (ji47) p507 q507
                 cases e507
                 replace p507 := eq_true p507
                 replace q507 := eq_true q507
                 have p508 : 0 ≤ ((ji50) : Int) := of_decide_eq_true (by first | (with_reducible assumption) | assumption)
                 have q508 : (ji50) < (t486.length : Int) := of_decide_eq_true (by first | (with_reducible assumption) | assumption)
                 obtain ⟨ad508, e508, hx508_0, hx508_1⟩ := at_T38 (Kd.R_reads' HO_5.out).2.2 (ji50) p508 q508
                 obtain rfl : ad507 = ad508 := (by injection e508)
                 replace p508 := eq_true p508
                 replace q508 := eq_true q508
                 refine start_ (n := 23) (S := fun w' => w'.cell? ⟨gb502, 0, none⟩ = some (.int .i64 t499) ∧ w'.cell? ⟨gb502, 1, none⟩ = some (.int .i64 t500) ∧ w'.cell? (ad507.add (((ji47)).toNat * 2)) = some (.int .i64 ((rd_T38 t486 (ji47)).f0)) ∧ w'.cell? ⟨(ad507.add (((ji47)).toNat * 2)).block, (ad507.add (((ji47)).toNat * 2)).off + 1, none⟩ = some (.int .i64 ((rd_T38 t486 (ji47)).f1)) ∧ w'.cell? (ad507.add (((ji50)).toNat * 2)) = some (.int .i64 ((rd_T38 t486 (ji50)).f0)) ∧ w'.cell? ⟨(ad507.add (((ji50)).toNat * 2)).block, (ad507.add (((ji50)).toNat * 2)).off + 1, none⟩ = some (.int .i64 ((rd_T38 t486 (ji50)).f1))) (ds := []) #[false, false, false, false, false, false, false, false, false, false, false, false, false, false, false, false, false, false, false, false, false, false, false] (by kernel_rfl) rfl rfl ⟨(blk_cell BK502.out 0).trans rfl, (blk_cell BK502.out 1).trans rfl, hx507_0, hx507_1, hx508_0, hx508_1⟩ (fun hHeld => ?_); refine with_tabW laws_FnMarks.tab16 laws_FnMarks.bits16 (fun HT_ HW_ => ?_)
                 generalize w66.drew = w67 at HO_5 HO_7 BK485 BK502 BK506 HB hx507_0 hx507_1 hx508_0 hx508_1 hHeld ⊢
                 refine pure_ (i := 0) (N := some 96) (v := ?_) (a' := ?_) #[true, false, false, false, false, false, false, false, false, false, false, false, false, false, false, false, false, false, false, false, false, false, false] rfl rfl (any_of HT_.out (by kernel_rfl)) (fun _ _ _ h => h) (Or.inl ⟨by rfl, ?_⟩) ?_ ?_
                 rotate_left
                 ·intro w'
                  go_simp
                  with_reducible rfl
                 rotate_left
                 ·simp only [Act.put, zS, z0, z1, i64_w, i32_w]
                  rfl
                 refine pure_ (i := 1) (N := some 97) (v := ?_) (a' := ?_) #[true, true, false, false, false, false, false, false, false, false, false, false, false, false, false, false, false, false, false, false, false, false, false] rfl rfl (any_of HT_.out (by kernel_rfl)) (fun _ _ _ h => h) (Or.inl ⟨by rfl, ?_⟩) ?_ ?_
                 rotate_left
                 ·intro w'
                  go_simp
                  with_reducible rfl
                 rotate_left
                 ·simp only [Act.put, zS, z0, z1, i64_w, i32_w]
                  rfl
                 refine pure_ (i := 2) (N := some 98) (v := ?_) (a' := ?_) #[true, true, true, false, false, false, false, false, false, false, false, false, false, false, false, false, false, false, false, false, false, false, false] rfl rfl (any_of HT_.out (by kernel_rfl)) (fun _ _ _ h => h) (Or.inl ⟨by rfl, ?_⟩) ?_ ?_
                 rotate_left
                 ·intro w'
                  go_simp
                  with_reducible rfl
                 rotate_left
                 ·simp only [Act.put, zS, z0, z1, i64_w, i32_w]
                  rfl
                 refine pure_ (i := 3) (N := some 99) (v := ?_) (a' := ?_) #[true, true, true, true, false, false, false, false, false, false, false, false, false, false, false, false, false, false, false, false, false, false, false] rfl rfl (any_of HT_.out (by kernel_rfl)) (fun _ _ _ h => h) (Or.inl ⟨by rfl, ?_⟩) ?_ ?_
                 rotate_left
                 ·intro w'
                  go_simp
                  with_reducible rfl
                 rotate_left
                 ·simp only [Act.put, zS, z0, z1, i64_w, i32_w]
                  rfl
                 refine pure_ (i := 4) (N := some 100) (v := ?_) (a' := ?_) #[true, true, true, true, true, false, false, false, false, false, false, false, false, false, false, false, false, false, false, false, false, false, false] rfl rfl (any_of HT_.out (by kernel_rfl)) (fun _ _ _ h => h) (Or.inl ⟨by rfl, ?_⟩) ?_ ?_
                 rotate_left
                 ·intro w'
                  go_simp
                  with_reducible rfl
                 rotate_left
                 ·simp only [Act.put, zS, z0, z1, i64_w, i32_w]
                  rfl
                 refine pure_ (i := 5) (N := some 101) (v := ?_) (a' := ?_) #[true, true, true, true, true, true, false, false, false, false, false, false, false, false, false, false, false, false, false, false, false, false, false] rfl rfl (any_of HT_.out (by kernel_rfl)) (fun _ _ _ h => h) (Or.inl ⟨by rfl, ?_⟩) ?_ ?_
                 rotate_left
                 ·intro w'
                  go_simp
                  with_reducible rfl
                 rotate_left
                 ·simp only [Act.put, zS, z0, z1, i64_w, i32_w]
                  rfl
                 refine pure_ (i := 6) (N := some 102) (v := ?_) (a' := ?_) #[true, true, true, true, true, true, true, false, false, false, false, false, false, false, false, false, false, false, false, false, false, false, false] rfl rfl (any_of HT_.out (by kernel_rfl)) (fun _ _ _ h => h) (Or.inl ⟨by rfl, ?_⟩) ?_ ?_
                 rotate_left
                 ·intro w'
                  go_simp
                  with_reducible rfl
                 rotate_left
                 ·simp only [Act.put, zS, z0, z1, i64_w, i32_w]
                  rfl
                 refine pure_ (i := 8) (N := some 104) (v := ?_) (a' := ?_) #[true, true, true, true, true, true, true, false, true, false, false, false, false, false, false, false, false, false, false, false, false, false, false] rfl rfl (any_of HT_.out (by kernel_rfl)) (fun _ _ _ h => h) (Or.inl ⟨by rfl, ?_⟩) ?_ ?_
                 rotate_left
                 ·intro w'
                  go_simp
                  with_reducible rfl
                 rotate_left
                 ·simp only [Act.put, zS, z0, z1, i64_w, i32_w]
                  rfl
                 refine pure_ (i := 9) (N := some 105) (v := ?_) (a' := ?_) #[true, true, true, true, true, true, true, false, true, true, false, false, false, false, false, false, false, false, false, false, false, false, false] rfl rfl (any_of HT_.out (by kernel_rfl)) (fun _ _ _ h => h) (Or.inl ⟨by rfl, ?_⟩) ?_ ?_
                 rotate_left
                 ·intro w'
                  go_simp
                  with_reducible rfl
                 rotate_left
                 ·simp only [Act.put, zS, z0, z1, i64_w, i32_w]
                  rfl
                 refine pure_ (i := 10) (N := some 106) (v := ?_) (a' := ?_) #[true, true, true, true, true, true, true, false, true, true, true, false, false, false, false, false, false, false, false, false, false, false, false] rfl rfl (any_of HT_.out (by kernel_rfl)) (fun _ _ _ h => h) (Or.inl ⟨by rfl, ?_⟩) ?_ ?_
                 rotate_left
                 ·intro w'
                  go_simp
                  with_reducible rfl
                 rotate_left
                 ·simp only [Act.put, zS, z0, z1, i64_w, i32_w]
                  rfl
                 refine pure_ (i := 11) (N := some 107) (v := ?_) (a' := ?_) #[true, true, true, true, true, true, true, false, true, true, true, true, false, false, false, false, false, false, false, false, false, false, false] rfl rfl (any_of HT_.out (by kernel_rfl)) (fun _ _ _ h => h) (Or.inl ⟨by rfl, ?_⟩) ?_ ?_
                 rotate_left
                 ·intro w'
                  go_simp
                  with_reducible rfl
                 rotate_left
                 ·simp only [Act.put, zS, z0, z1, i64_w, i32_w]
                  rfl
                 refine pure_ (i := 13) (N := some 109) (v := ?_) (a' := ?_) #[true, true, true, true, true, true, true, false, true, true, true, true, false, true, false, false, false, false, false, false, false, false, false] rfl rfl (any_of HT_.out (by kernel_rfl)) (fun _ _ _ h => h) (Or.inl ⟨by rfl, ?_⟩) ?_ ?_
                 rotate_left
                 ·intro w'
                  go_simp
                  with_reducible rfl
                 rotate_left
                 ·simp only [Act.put, zS, z0, z1, i64_w, i32_w]
                  rfl
                 refine pure_ (i := 14) (N := some 110) (v := ?_) (a' := ?_) #[true, true, true, true, true, true, true, false, true, true, true, true, false, true, true, false, false, false, false, false, false, false, false] rfl rfl (any_of HT_.out (by kernel_rfl)) (fun _ _ _ h => h) (Or.inl ⟨by rfl, ?_⟩) ?_ ?_
                 rotate_left
                 ·intro w'
                  go_simp
                  with_reducible rfl
                 rotate_left
                 ·simp only [Act.put, zS, z0, z1, i64_w, i32_w]
                  rfl
                 refine pure_ (i := 15) (N := some 111) (v := ?_) (a' := ?_) #[true, true, true, true, true, true, true, false, true, true, true, true, false, true, true, true, false, false, false, false, false, false, false] rfl rfl (any_of HT_.out (by kernel_rfl)) (fun _ _ _ h => h) (Or.inl ⟨by rfl, ?_⟩) ?_ ?_
                 rotate_left
                 ·intro w'
                  go_simp
                  with_reducible rfl
                 rotate_left
                 ·simp only [Act.put, zS, z0, z1, i64_w, i32_w]
                  rfl
                 refine pure_ (i := 16) (N := some 112) (v := ?_) (a' := ?_) #[true, true, true, true, true, true, true, false, true, true, true, true, false, true, true, true, true, false, false, false, false, false, false] rfl rfl (any_of HT_.out (by kernel_rfl)) (fun _ _ _ h => h) (Or.inl ⟨by rfl, ?_⟩) ?_ ?_
                 rotate_left
                 ·intro w'
                  go_simp
                  with_reducible rfl
                 rotate_left
                 ·simp only [Act.put, zS, z0, z1, i64_w, i32_w]
                  rfl
                 refine take_ (i := 7) (N := some 103) (v := ?_) (a' := ?_) #[true, true, true, true, true, true, true, true, true, true, true, true, false, true, true, true, true, false, false, false, false, false, false] rfl rfl (take_ofW HT_.out HW_.out (by kernel_rfl)) (fun _ _ _ h => h) (Or.inl ⟨by rfl, ?_⟩) hHeld ?_ ?_
                 rotate_left
                 ·rintro w' ⟨s0, s1, s2, s3, s4, s5⟩
                  go_simp
                  with_reducible rfl
                 rotate_left
                 ·simp only [Act.put, zS, z0, z1, i64_w, i32_w]
                  rfl
                 refine take_ (i := 12) (N := some 108) (v := ?_) (a' := ?_) #[true, true, true, true, true, true, true, true, true, true, true, true, true, true, true, true, true, false, false, false, false, false, false] rfl rfl (take_ofW HT_.out HW_.out (by kernel_rfl)) (fun _ _ _ h => h) (Or.inl ⟨by rfl, ?_⟩) hHeld ?_ ?_
                 rotate_left
                 ·rintro w' ⟨s0, s1, s2, s3, s4, s5⟩
                  go_simp
                  with_reducible rfl
                 rotate_left
                 ·simp only [Act.put, zS, z0, z1, i64_w, i32_w]
                  rfl
                 refine take_ (i := 17) (N := some 113) (v := ?_) (a' := ?_) #[true, true, true, true, true, true, true, true, true, true, true, true, true, true, true, true, true, true, false, false, false, false, false] rfl rfl (take_ofW HT_.out HW_.out (by kernel_rfl)) (fun _ _ _ h => h) (Or.inl ⟨by rfl, ?_⟩) hHeld ?_ ?_
                 rotate_left
                 ·rintro w' ⟨s0, s1, s2, s3, s4, s5⟩
                  go_simp
                  with_reducible rfl
                 rotate_left
                 ·simp only [Act.put, zS, z0, z1, i64_w, i32_w]
                  rfl
                 refine pure_ (i := 18) (N := some 114) (v := ?_) (a' := ?_) #[true, true, true, true, true, true, true, true, true, true, true, true, true, true, true, true, true, true, true, false, false, false, false] rfl rfl (any_of HT_.out (by kernel_rfl)) (fun _ _ _ h => h) (Or.inl ⟨by rfl, ?_⟩) ?_ ?_
                 rotate_left
                 ·intro w'
                  go_simp
                  with_reducible rfl
                 rotate_left
                 ·simp only [Act.put, zS, z0, z1, i64_w, i32_w]
                  rfl
                 refine one_ (i := 19) (N := some 115) #[true, true, true, true, true, true, true, true, true, true, true, true, true, true, true, true, true, true, true, true, false, false, false] rfl rfl (one_of HT_.out (by kernel_rfl)) (by decide) (fun K hK => ?_)
                 refine goes_ Try.func40 (by kernel_rfl) rfl #[.agg #[.int .i64 t499, .int .i64 t500], .int .i64 (wrap64 (((rd_T38 t486 (ji47)).f0) - ((rd_T38 t486 (ji50)).f0)))] (by rfl) rfl rfl (by (try simp only [List.map_toArray, List.map_cons, List.map_nil]); first | done | (simp only [hji47, hji50]; rfl) | rfl | (simp only [List.length_drop, List.length_take]; rfl)) ?_
                 with_reducible refine (impl_Holds.calls t499 t500 (wrap64 (((rd_T38 t486 (ji47)).f0) - ((rd_T38 t486 (ji50)).f0))) t509 _ A53.out).mono ?_
                 rintro e w68 ⟨rfl, hb⟩
                 have HS2_ := (hb.cell (World.block_lt_of_cell? _ _ (hHeld.2.2.1))).trans (hHeld.2.2.1)
                 have HS3_ := (hb.cell (World.block_lt_of_cell? _ _ (hHeld.2.2.2.1))).trans (hHeld.2.2.2.1)
                 have HS4_ := (hb.cell (World.block_lt_of_cell? _ _ (hHeld.2.2.2.2.1))).trans (hHeld.2.2.2.2.1)
                 have HS5_ := (hb.cell (World.block_lt_of_cell? _ _ (hHeld.2.2.2.2.2))).trans (hHeld.2.2.2.2.2)
                 refine ⟨_, rfl, ?_⟩
                 have n0_ := zM (Kd.R_below (by (with_reducible repeat (first | apply Kd.R_alloc | apply Kd.R_drewN | apply Kd.R_drew)); exact HO_5.out) hb)
                 have n1_ := zM (Kd.R_below (by (with_reducible repeat (first | apply Kd.R_alloc | apply Kd.R_drewN | apply Kd.R_drew)); exact HO_7.out) hb)
                 have n2_ := zM (blk_below (g := gb485) (o := .cells #[.int .i64 t478, .int .i64 t479, .int .i64 t480, .int .i64 t481] 54 (0, 0)) (by (with_reducible repeat (first | refine bA ?_ _ | refine bB ?_ | refine bC ?_ _)); exact BK485.out) hb)
                 have n3_ := zM (blk_below (g := gb502) (o := .cells #[.int .i64 t499, .int .i64 t500] 40 (0, 0)) (by (with_reducible repeat (first | refine bA ?_ _ | refine bB ?_ | refine bC ?_ _)); exact BK502.out) hb)
                 have n4_ := zM (blk_below (g := gb506) (o := .cells #[.int .i64 t503, .int .i64 t504] 40 (0, 0)) (by (with_reducible repeat (first | refine bA ?_ _ | refine bB ?_ | refine bC ?_ _)); exact BK506.out) hb)
                 have n5_ := zM (bG (by repeat (first | (with_reducible first | exact HB.out | apply bE | apply bD | apply bF | refine below_set ?_ GE485.out | refine below_set ?_ GE502.out | refine below_set ?_ GE506.out) | exact HB.out)) hb)
                 clear HO_5
                 clear HO_7
                 clear BK485
                 clear BK502
                 clear BK506
                 clear HB
                 have HO_5 := n0_
                 have HO_7 := n1_
                 have BK485 := n2_
                 have BK502 := n3_
                 have BK506 := n4_
                 have HB := n5_
                 clear n0_ n1_ n2_ n3_ n4_ n5_
                 (try clear hb)
                 (try clear hb2)
                 (try clear hk)
                 (try clear hi)
                 refine hK.out _ _ ⟨(blk_cell BK502.out 0).trans rfl, (blk_cell BK502.out 1).trans rfl, HS2_, HS3_, HS4_, HS5_⟩ (fun hHeld => ?_)
                 clear hK K
                 refine norm_ (a' := ?_) ?_ ?_
                 rotate_left
                 ·show Act.put _ (some 115) _ = _
                  simp only [Act.put, zS, z0, z1, i64_w, i32_w]
                  rfl
                 refine pure_ (i := 20) (N := some 116) (v := ?_) (a' := ?_) #[true, true, true, true, true, true, true, true, true, true, true, true, true, true, true, true, true, true, true, true, true, false, false] rfl rfl (any_of HT_.out (by kernel_rfl)) (fun _ _ _ h => h) (Or.inl ⟨by rfl, ?_⟩) ?_ ?_
                 rotate_left
                 ·intro w'
                  go_simp
                  with_reducible rfl
                 rotate_left
                 ·simp only [Act.put, zS, z0, z1, i64_w, i32_w]
                  rfl
                 refine pure_ (i := 21) (N := some 117) (v := ?_) (a' := ?_) #[true, true, true, true, true, true, true, true, true, true, true, true, true, true, true, true, true, true, true, true, true, true, false] rfl rfl (any_of HT_.out (by kernel_rfl)) (fun _ _ _ h => h) (Or.inl ⟨by rfl, ?_⟩) ?_ ?_
                 rotate_left
                 ·intro w'
                  go_simp
                  with_reducible rfl
                 rotate_left
                 ·simp only [Act.put, zS, z0, z1, i64_w, i32_w]
                  rfl
                 refine pure_ (i := 22) (N := some 2) (v := ?_) (a' := ?_) #[true, true, true, true, true, true, true, true, true, true, true, true, true, true, true, true, true, true, true, true, true, true, true] rfl rfl (any_of HT_.out (by kernel_rfl)) (fun _ _ _ h => h) (Or.inl ⟨by rfl, ?_⟩) ?_ ?_
                 rotate_left
                 ·intro w'
                  go_simp
                  with_reducible rfl
                 rotate_left
                 ·simp only [Act.put, zS, z0, z1, i64_w, i32_w]
                  rfl
                 refine done_ (done_of HT_.out (by kernel_rfl)) ?_
                 try go_wp2
                 go_ret
                 exact ⟨by first | rfl | (simp only [← hji47, ← hji50]; first | rfl | (simp [errW_none, errW_some] <;> rfl)) | (simp [*, errW_none, errW_some] <;> rfl), by repeat (first | (with_reducible first | exact HB.out | apply bE | apply bD | apply bF | refine below_set ?_ GE485.out | refine below_set ?_ GE502.out | refine below_set ?_ GE506.out) | exact HB.out)⟩
                ·rw [if_neg c52] at H
                 exact absurd H (by simp)
               ·rw [if_neg c51] at H
                exact absurd H (by simp)
              ·rw [if_neg c49] at H
               exact absurd H (by simp)
             ·rw [if_neg c48] at H
              exact absurd H (by simp)
            ·replace c46 := Bool.eq_false_iff.mpr c46
             subst c46
             have H1 : (some true) = some r := by rw [if_neg (show ¬ (false = true) by decide)] at H; exact H
             clear H
             have H := H1
             clear H1
             obtain rfl := Option.some.inj H
             simp only [zI, zJ] at H
             obtain ⟨rfl⟩ := H
             try go_wp2_with (first | ((with_reducible refine gate_callee (f := 39) rfl ?_); refine goesL_ (some 65) rfl rfl Try.func39 (by kernel_rfl) rfl #[.slice A0 l0.length c0, .int .i64 1] rfl (by (try simp only [List.map_toArray, List.map_cons, List.map_nil]); first | done | rfl) ?_; (with_reducible refine (laws_at.calls _ _ l0 1 t497 _ ?side1 ?side2 A39.out).mono ?_); (case side1 => repeat (first | exact (Kd.C_below HR0.out HB.out) | (with_reducible refine Kd.C_alloc ?_ _) | (with_reducible refine Kd.C_drewN ?_ _) | (with_reducible refine Kd.C_drew ?_))); (case side2 => exact HC0.out); rintro e w' ⟨rfl, ⟨nd, rfl⟩⟩; refine ⟨_, rfl, ?_⟩; (try (rw [drewN_self wc]; generalize hq_ : World.drewN wc _ = wc; have n0_ : Aside0 (Kd.R k38 38 wc w.heap.size (fun k_ => some k_ ≠ (.slice Ao26 t490.length co26 : Value).ownBlock) v487 t486) := ⟨by rw [← hq_]; exact (by (with_reducible repeat (first | apply Kd.R_alloc | apply Kd.R_drewN | apply Kd.R_drew)); exact HO_5.out)⟩; have n1_ : Aside0 (Kd.R k38 38 wc w.heap.size (fun k_ => some k_ ≠ (v487 : Value).ownBlock) (.slice Ao26 t490.length co26) t490) := ⟨by rw [← hq_]; exact (by (with_reducible repeat (first | apply Kd.R_alloc | apply Kd.R_drewN | apply Kd.R_drew)); exact HO_7.out)⟩; have n2_ : Aside0 (wc.heap[gb485]? = some (.cells #[.int .i64 t478, .int .i64 t479, .int .i64 t480, .int .i64 t481] 54 (0, 0))) := ⟨by rw [← hq_]; exact (by (with_reducible repeat (first | refine bA ?_ _ | refine bB ?_ | refine bC ?_ _)); exact BK485.out)⟩; have n3_ : Aside0 (Below w.heap.size w wc) := ⟨by rw [← hq_]; exact (by repeat (first | (with_reducible first | exact HB.out | apply bE | apply bD | apply bF | refine below_set ?_ GE485.out) | exact HB.out))⟩; clear HO_5 HO_7 BK485 HB hq_; have HO_5 := n0_; have HO_7 := n1_; have BK485 := n2_; have HB := n3_; clear n0_ n1_ n2_ n3_)); obtain ⟨Ao69, co69, eo69⟩ := Kd.R_slice HO_5.out; subst eo69) | ((with_reducible refine gate_callee (f := 39) rfl ?_); refine goesL_ (some 71) rfl rfl Try.func39 (by kernel_rfl) rfl #[.slice A0 l0.length c0, .int .i64 2] rfl (by (try simp only [List.map_toArray, List.map_cons, List.map_nil]); first | done | rfl) ?_; (with_reducible refine (laws_at.calls _ _ l0 2 t498 _ ?side1 ?side2 A41.out).mono ?_); (case side1 => repeat (first | exact (Kd.C_below HR0.out HB.out) | (with_reducible refine Kd.C_alloc ?_ _) | (with_reducible refine Kd.C_drewN ?_ _) | (with_reducible refine Kd.C_drew ?_))); (case side2 => exact HC0.out); rintro e w' ⟨rfl, ⟨nd, rfl⟩⟩; refine ⟨_, rfl, ?_⟩; (try (rw [drewN_self wc]; generalize hq_ : World.drewN wc _ = wc; have n0_ : Aside0 (Kd.R k38 38 wc w.heap.size (fun k_ => some k_ ≠ (.slice Ao26 t490.length co26 : Value).ownBlock) (.slice Ao69 t486.length co69) t486) := ⟨by rw [← hq_]; exact (by (with_reducible repeat (first | apply Kd.R_alloc | apply Kd.R_drewN | apply Kd.R_drew)); exact HO_5.out)⟩; have n1_ : Aside0 (Kd.R k38 38 wc w.heap.size (fun k_ => some k_ ≠ (.slice Ao69 t486.length co69 : Value).ownBlock) (.slice Ao26 t490.length co26) t490) := ⟨by rw [← hq_]; exact (by (with_reducible repeat (first | apply Kd.R_alloc | apply Kd.R_drewN | apply Kd.R_drew)); exact HO_7.out)⟩; have n2_ : Aside0 (wc.heap[gb485]? = some (.cells #[.int .i64 t478, .int .i64 t479, .int .i64 t480, .int .i64 t481] 54 (0, 0))) := ⟨by rw [← hq_]; exact (by (with_reducible repeat (first | refine bA ?_ _ | refine bB ?_ | refine bC ?_ _)); exact BK485.out)⟩; have n3_ : Aside0 (Below w.heap.size w wc) := ⟨by rw [← hq_]; exact (by repeat (first | (with_reducible first | exact HB.out | apply bE | apply bD | apply bF | refine below_set ?_ GE485.out) | exact HB.out))⟩; clear HO_5 HO_7 BK485 HB hq_; have HO_5 := n0_; have HO_7 := n1_; have BK485 := n2_; have HB := n3_; clear n0_ n1_ n2_ n3_)); have hcz70_0 : wc.cell? ⟨gb485, 0, none⟩ = some (.int .i64 t478) := (blk_cell BK485.out 0).trans rfl; have hcz70_1 : wc.cell? ⟨gb485, 1, none⟩ = some (.int .i64 t479) := (blk_cell BK485.out 1).trans rfl; have hcz70_2 : wc.cell? ⟨gb485, 2, none⟩ = some (.int .i64 t480) := (blk_cell BK485.out 2).trans rfl; have hcz70_3 : wc.cell? ⟨gb485, 3, none⟩ = some (.int .i64 t481) := (blk_cell BK485.out 3).trans rfl; have hfz70_0 := blk_frozen BK485.out 0; have hfz70_1 := blk_frozen BK485.out 1; have hfz70_2 := blk_frozen BK485.out 2; have hfz70_3 := blk_frozen BK485.out 3) | ((with_reducible refine gate_callee (f := 23) rfl ?_); refine goesL_ (some 84) rfl rfl Try.func23 (by kernel_rfl) rfl #[.agg #[.int .i64 t478, .int .i64 t479], .slice Ao69 t486.length co69, .int .i64 (Int.tmod t497 (t486.length : Int)), .int .i64 (wrap64 ((Int.tmod t497 (t486.length : Int)) + (Int.tmod t498 (wrap64 ((t486.length : Int) - (Int.tmod t497 (t486.length : Int)))))))] rfl (by (try simp only [List.map_toArray, List.map_cons, List.map_nil]); first | done | rfl) ?_; (with_reducible refine (impl_ElapsedAt.calls kj24 t478 t479 _ _ t486 (Int.tmod t497 (t486.length : Int)) (wrap64 ((Int.tmod t497 (t486.length : Int)) + (Int.tmod t498 (wrap64 ((t486.length : Int) - (Int.tmod t497 (t486.length : Int))))))) t499 t500 false _ ?side1 ?side2 A43.out).mono ?_); (case side1 => repeat (first | exact (Kd.R_reads' HO_5.out).2.2 | (with_reducible refine Kd.C_alloc ?_ _) | (with_reducible refine Kd.C_drewN ?_ _) | (with_reducible refine Kd.C_drew ?_))); (case side2 => exact (Kd.R_reads' HO_5.out).2.1); rintro e w71 ⟨rfl, hb⟩; refine ⟨_, rfl, ?_⟩; have n0_ := zM (Kd.R_below (by (with_reducible repeat (first | apply Kd.R_alloc | apply Kd.R_drewN | apply Kd.R_drew)); exact HO_5.out) hb); have n1_ := zM (Kd.R_below (by (with_reducible repeat (first | apply Kd.R_alloc | apply Kd.R_drewN | apply Kd.R_drew)); exact HO_7.out) hb); have n2_ := zM (blk_below (g := gb485) (o := .cells #[.int .i64 t478, .int .i64 t479, .int .i64 t480, .int .i64 t481] 54 (0, 0)) (by (with_reducible repeat (first | refine bA ?_ _ | refine bB ?_ | refine bC ?_ _)); exact BK485.out) hb); have n3_ := zM (bG (by repeat (first | (with_reducible first | exact HB.out | apply bE | apply bD | apply bF | refine below_set ?_ GE485.out) | exact HB.out)) hb); clear HO_5; clear HO_7; clear BK485; clear HB; have HO_5 := n0_; have HO_7 := n1_; have BK485 := n2_; have HB := n3_; clear n0_ n1_ n2_ n3_; (try clear hb); (try clear hk); (try clear hi)) | ((with_reducible refine gate_dst (N := 11) rfl ?_); (try (refine gate_guard (by rfl) ?_; dsimp only)); refine box_event ?hg (N := 11) ?hd (cs := #[.int .i64 0, .int .i64 0]) (t := 40) ?hr ?_; (case hd => rfl); (case hg => rfl); (case hr => first | (go_simp; done) | (go_simp; rfl)); intro gb502 hg w72 hbox hb; have n0_ := zM (Kd.R_below (by (with_reducible repeat (first | apply Kd.R_alloc | apply Kd.R_drewN | apply Kd.R_drew)); exact HO_5.out) hb); have n1_ := zM (Kd.R_below (by (with_reducible repeat (first | apply Kd.R_alloc | apply Kd.R_drewN | apply Kd.R_drew)); exact HO_7.out) hb); have n2_ := zM (blk_below (g := gb485) (o := .cells #[.int .i64 t478, .int .i64 t479, .int .i64 t480, .int .i64 t481] 54 (0, 0)) (by (with_reducible repeat (first | refine bA ?_ _ | refine bB ?_ | refine bC ?_ _)); exact BK485.out) hb); have n3_ := zM (bG (by repeat (first | (with_reducible first | exact HB.out | apply bE | apply bD | apply bF | refine below_set ?_ GE485.out) | exact HB.out)) hb); have n4_ := zM (hbox); have n5_ := zM ((by rw [hg]; exact (below_size (by repeat (first | (with_reducible first | exact HB.out | apply bE | apply bD | apply bF | refine below_set ?_ GE485.out) | exact HB.out))) : w.heap.size ≤ gb502)); have n6_ := zM ((by rw [hg]; exact (below_size (by repeat (first | (with_reducible first | exact HB.out | apply bE | apply bD | apply bF | refine below_set ?_ GE485.out) | exact HB.out))) : w.heap.size ≤ gb502)); have n7_ := zM ((by rw [hg]; exact Nat.ne_of_lt (blk_lt (g := gb485) (o := .cells #[.int .i64 t478, .int .i64 t479, .int .i64 t480, .int .i64 t481] 54 (0, 0)) (by (with_reducible repeat (first | refine bA ?_ _ | refine bB ?_ | refine bC ?_ _)); exact BK485.out)) : gb485 ≠ gb502)); have n8_ := zM ((by rw [hg]; exact Nat.ne_of_gt (blk_lt (g := gb485) (o := .cells #[.int .i64 t478, .int .i64 t479, .int .i64 t480, .int .i64 t481] 54 (0, 0)) (by (with_reducible repeat (first | refine bA ?_ _ | refine bB ?_ | refine bC ?_ _)); exact BK485.out)) : gb502 ≠ gb485)); clear HO_5; clear HO_7; clear BK485; clear HB; have HO_5 := n0_; have HO_7 := n1_; have BK485 := n2_; have HB := n3_; have BK502 := n4_; have GW502 := n5_; have GE502 := n6_; have NB485_502 := n7_; have NB502_485 := n8_; clear n0_ n1_ n2_ n3_ n4_ n5_ n6_ n7_ n8_; clear hb hbox hg; have hnb73 := NB502_485.out; have hnc73 := NB485_502.out; have hcz74_0 : w72.cell? ⟨gb502, 0, none⟩ = some (.int .i64 0) := (blk_cell BK502.out 0).trans rfl; have hcz74_1 : w72.cell? ⟨gb502, 1, none⟩ = some (.int .i64 0) := (blk_cell BK502.out 1).trans rfl; have hfz74_0 := blk_frozen BK502.out 0; have hfz74_1 := blk_frozen BK502.out 1; have hcz75_0 : w72.cell? ⟨gb485, 0, none⟩ = some (.int .i64 t478) := (blk_cell BK485.out 0).trans rfl; have hcz75_1 : w72.cell? ⟨gb485, 1, none⟩ = some (.int .i64 t479) := (blk_cell BK485.out 1).trans rfl; have hcz75_2 : w72.cell? ⟨gb485, 2, none⟩ = some (.int .i64 t480) := (blk_cell BK485.out 2).trans rfl; have hcz75_3 : w72.cell? ⟨gb485, 3, none⟩ = some (.int .i64 t481) := (blk_cell BK485.out 3).trans rfl; have hfz75_0 := blk_frozen BK485.out 0; have hfz75_1 := blk_frozen BK485.out 1; have hfz75_2 := blk_frozen BK485.out 2; have hfz75_3 := blk_frozen BK485.out 3) | ((with_reducible refine gate_callee (f := 22) rfl ?_); refine goesL_ (some 93) rfl rfl Try.func22 (by kernel_rfl) rfl #[.agg #[.int .i64 t478, .int .i64 t479], .slice Ao26 t490.length co26, .int .i64 (Int.tmod t497 (t486.length : Int)), .int .i64 (wrap64 ((Int.tmod t497 (t486.length : Int)) + (Int.tmod t498 (wrap64 ((t486.length : Int) - (Int.tmod t497 (t486.length : Int)))))))] rfl (by (try simp only [List.map_toArray, List.map_cons, List.map_nil]); first | done | rfl) ?_; (with_reducible refine (spec_ElapsedAt.calls kj24 t478 t479 _ _ t490 (Int.tmod t497 (t486.length : Int)) (wrap64 ((Int.tmod t497 (t486.length : Int)) + (Int.tmod t498 (wrap64 ((t486.length : Int) - (Int.tmod t497 (t486.length : Int))))))) t503 t504 t505 _ ?side1 ?side2 A44.out).mono ?_); (case side1 => refine (Kd.R_reads' (e := 38) (base := w.heap.size) (ok := fun k_ => some k_ ≠ (.slice Ao69 t486.length co69 : Value).ownBlock) (n := t490.length) (c := co26) ?_).2.2; exact (by (with_reducible repeat (first | apply Kd.R_alloc | apply Kd.R_drewN | apply Kd.R_drew)); exact (Kd.R_mono (Kd.R_far (p := ⟨gb502, 1, none⟩) (Kd.R_far (p := ⟨gb502, 0, none⟩) (Kd.R_types HO_7.out BK502.out (by decide)) (fun _ hk => hk.2) (.int .i64 t499)) (fun _ hk => hk.2) (.int .i64 t500)) (fun _ h_ => h_.1)))); (case side2 => exact (Kd.R_reads' HO_7.out).2.1); rintro e w76 ⟨rfl, hb⟩; refine ⟨_, rfl, ?_⟩; have n0_ := zM (Kd.R_below (by (with_reducible repeat (first | apply Kd.R_alloc | apply Kd.R_drewN | apply Kd.R_drew)); exact (Kd.R_mono (Kd.R_far (p := ⟨gb502, 1, none⟩) (Kd.R_far (p := ⟨gb502, 0, none⟩) (Kd.R_types HO_5.out BK502.out (by decide)) (fun _ hk => hk.2) (.int .i64 t499)) (fun _ hk => hk.2) (.int .i64 t500)) (fun _ h_ => h_.1))) hb); have n1_ := zM (Kd.R_below (by (with_reducible repeat (first | apply Kd.R_alloc | apply Kd.R_drewN | apply Kd.R_drew)); exact (Kd.R_mono (Kd.R_far (p := ⟨gb502, 1, none⟩) (Kd.R_far (p := ⟨gb502, 0, none⟩) (Kd.R_types HO_7.out BK502.out (by decide)) (fun _ hk => hk.2) (.int .i64 t499)) (fun _ hk => hk.2) (.int .i64 t500)) (fun _ h_ => h_.1))) hb); have n2_ := zM (blk_below (g := gb485) (o := .cells #[.int .i64 t478, .int .i64 t479, .int .i64 t480, .int .i64 t481] 54 (0, 0)) (by (with_reducible repeat (first | refine bA ?_ _ | refine bB ?_ | refine bC ?_ _)); refine blk_far ?_ NB485_502.out _; (with_reducible repeat (first | refine bA ?_ _ | refine bB ?_ | refine bC ?_ _)); refine blk_far ?_ NB485_502.out _; (with_reducible repeat (first | refine bA ?_ _ | refine bB ?_ | refine bC ?_ _)); exact BK485.out) hb); have n3_ := zM (blk_below (g := gb502) (o := .cells #[.int .i64 t499, .int .i64 t500] 40 (0, 0)) (by (with_reducible repeat (first | refine bA ?_ _ | refine bB ?_ | refine bC ?_ _)); refine bH (cs := #[.int .i64 t499, .int .i64 0]) ?_ 1 _ rfl; (with_reducible repeat (first | refine bA ?_ _ | refine bB ?_ | refine bC ?_ _)); refine bH (cs := #[.int .i64 0, .int .i64 0]) ?_ 0 _ rfl; (with_reducible repeat (first | refine bA ?_ _ | refine bB ?_ | refine bC ?_ _)); exact BK502.out) hb); have n4_ := zM (bG (by repeat (first | (with_reducible first | exact HB.out | apply bE | apply bD | apply bF | refine below_set ?_ GE485.out | refine below_set ?_ GE502.out) | exact HB.out)) hb); clear HO_5; clear HO_7; clear BK485; clear BK502; clear HB; have HO_5 := n0_; have HO_7 := n1_; have BK485 := n2_; have BK502 := n3_; have HB := n4_; clear n0_ n1_ n2_ n3_ n4_; (try clear hb); (try clear hk); (try clear hi)) | ((with_reducible refine gate_dst (N := 13) rfl ?_); (try (refine gate_guard (by rfl) ?_; dsimp only)); refine box_event ?hg (N := 13) ?hd (cs := #[.int .i64 0, .int .i64 0]) (t := 40) ?hr ?_; (case hd => rfl); (case hg => rfl); (case hr => first | (go_simp; done) | (go_simp; rfl)); intro gb506 hg w77 hbox hb; have n0_ := zM (Kd.R_below (by (with_reducible repeat (first | apply Kd.R_alloc | apply Kd.R_drewN | apply Kd.R_drew)); exact HO_5.out) hb); have n1_ := zM (Kd.R_below (by (with_reducible repeat (first | apply Kd.R_alloc | apply Kd.R_drewN | apply Kd.R_drew)); exact HO_7.out) hb); have n2_ := zM (blk_below (g := gb485) (o := .cells #[.int .i64 t478, .int .i64 t479, .int .i64 t480, .int .i64 t481] 54 (0, 0)) (by (with_reducible repeat (first | refine bA ?_ _ | refine bB ?_ | refine bC ?_ _)); exact BK485.out) hb); have n3_ := zM (blk_below (g := gb502) (o := .cells #[.int .i64 t499, .int .i64 t500] 40 (0, 0)) (by (with_reducible repeat (first | refine bA ?_ _ | refine bB ?_ | refine bC ?_ _)); exact BK502.out) hb); have n4_ := zM (bG (by repeat (first | (with_reducible first | exact HB.out | apply bE | apply bD | apply bF | refine below_set ?_ GE485.out | refine below_set ?_ GE502.out) | exact HB.out)) hb); have n5_ := zM (hbox); have n6_ := zM ((by rw [hg]; exact (below_size (by repeat (first | (with_reducible first | exact HB.out | apply bE | apply bD | apply bF | refine below_set ?_ GE485.out | refine below_set ?_ GE502.out) | exact HB.out))) : w.heap.size ≤ gb506)); have n7_ := zM ((by rw [hg]; exact (below_size (by repeat (first | (with_reducible first | exact HB.out | apply bE | apply bD | apply bF | refine below_set ?_ GE485.out | refine below_set ?_ GE502.out) | exact HB.out))) : w.heap.size ≤ gb506)); have n8_ := zM ((by rw [hg]; exact Nat.ne_of_lt (blk_lt (g := gb485) (o := .cells #[.int .i64 t478, .int .i64 t479, .int .i64 t480, .int .i64 t481] 54 (0, 0)) (by (with_reducible repeat (first | refine bA ?_ _ | refine bB ?_ | refine bC ?_ _)); exact BK485.out)) : gb485 ≠ gb506)); have n9_ := zM ((by rw [hg]; exact Nat.ne_of_gt (blk_lt (g := gb485) (o := .cells #[.int .i64 t478, .int .i64 t479, .int .i64 t480, .int .i64 t481] 54 (0, 0)) (by (with_reducible repeat (first | refine bA ?_ _ | refine bB ?_ | refine bC ?_ _)); exact BK485.out)) : gb506 ≠ gb485)); have n10_ := zM ((by rw [hg]; exact Nat.ne_of_lt (blk_lt (g := gb502) (o := .cells #[.int .i64 t499, .int .i64 t500] 40 (0, 0)) (by (with_reducible repeat (first | refine bA ?_ _ | refine bB ?_ | refine bC ?_ _)); exact BK502.out)) : gb502 ≠ gb506)); have n11_ := zM ((by rw [hg]; exact Nat.ne_of_gt (blk_lt (g := gb502) (o := .cells #[.int .i64 t499, .int .i64 t500] 40 (0, 0)) (by (with_reducible repeat (first | refine bA ?_ _ | refine bB ?_ | refine bC ?_ _)); exact BK502.out)) : gb506 ≠ gb502)); clear HO_5; clear HO_7; clear BK485; clear BK502; clear HB; have HO_5 := n0_; have HO_7 := n1_; have BK485 := n2_; have BK502 := n3_; have HB := n4_; have BK506 := n5_; have GW506 := n6_; have GE506 := n7_; have NB485_506 := n8_; have NB506_485 := n9_; have NB502_506 := n10_; have NB506_502 := n11_; clear n0_ n1_ n2_ n3_ n4_ n5_ n6_ n7_ n8_ n9_ n10_ n11_; clear hb hbox hg; have hnb78 := NB506_485.out; have hnc78 := NB485_506.out; have hnb79 := NB506_502.out; have hnc79 := NB502_506.out; have hcz80_0 : w77.cell? ⟨gb506, 0, none⟩ = some (.int .i64 0) := (blk_cell BK506.out 0).trans rfl; have hcz80_1 : w77.cell? ⟨gb506, 1, none⟩ = some (.int .i64 0) := (blk_cell BK506.out 1).trans rfl; have hfz80_0 := blk_frozen BK506.out 0; have hfz80_1 := blk_frozen BK506.out 1))
             have n0_ : Aside0 (Kd.R k38 38 ((w77.setCell ⟨gb506, 0, none⟩ (.int .i64 t503)).setCell ⟨gb506, 1, none⟩ (.int .i64 t504)) w.heap.size (fun k_ => some k_ ≠ (.slice Ao26 t490.length co26 : Value).ownBlock) (.slice Ao69 t486.length co69) t486) := ⟨by (with_reducible repeat (first | apply Kd.R_alloc | apply Kd.R_drewN | apply Kd.R_drew)); exact Kd.R_mono (Kd.R_far (p := ⟨gb506, 1, none⟩) (Kd.R_far (p := ⟨gb506, 0, none⟩) (Kd.R_types HO_5.out BK506.out (by decide)) (fun _ hk => hk.2) (.int .i64 t503)) (fun _ hk => hk.2) (.int .i64 t504)) (fun _ hk => hk.1)⟩
             have n1_ : Aside0 (Kd.R k38 38 ((w77.setCell ⟨gb506, 0, none⟩ (.int .i64 t503)).setCell ⟨gb506, 1, none⟩ (.int .i64 t504)) w.heap.size (fun k_ => some k_ ≠ (.slice Ao69 t486.length co69 : Value).ownBlock) (.slice Ao26 t490.length co26) t490) := ⟨by (with_reducible repeat (first | apply Kd.R_alloc | apply Kd.R_drewN | apply Kd.R_drew)); exact Kd.R_mono (Kd.R_far (p := ⟨gb506, 1, none⟩) (Kd.R_far (p := ⟨gb506, 0, none⟩) (Kd.R_types HO_7.out BK506.out (by decide)) (fun _ hk => hk.2) (.int .i64 t503)) (fun _ hk => hk.2) (.int .i64 t504)) (fun _ hk => hk.1)⟩
             have n2_ : Aside0 (((w77.setCell ⟨gb506, 0, none⟩ (.int .i64 t503)).setCell ⟨gb506, 1, none⟩ (.int .i64 t504)).heap[gb485]? = some (.cells #[.int .i64 t478, .int .i64 t479, .int .i64 t480, .int .i64 t481] 54 (0, 0))) := ⟨by (with_reducible repeat (first | refine bA ?_ _ | refine bB ?_ | refine bC ?_ _)); refine blk_far ?_ NB485_506.out _; (with_reducible repeat (first | refine bA ?_ _ | refine bB ?_ | refine bC ?_ _)); refine blk_far ?_ NB485_506.out _; (with_reducible repeat (first | refine bA ?_ _ | refine bB ?_ | refine bC ?_ _)); exact BK485.out⟩
             have n3_ : Aside0 (((w77.setCell ⟨gb506, 0, none⟩ (.int .i64 t503)).setCell ⟨gb506, 1, none⟩ (.int .i64 t504)).heap[gb502]? = some (.cells #[.int .i64 t499, .int .i64 t500] 40 (0, 0))) := ⟨by (with_reducible repeat (first | refine bA ?_ _ | refine bB ?_ | refine bC ?_ _)); refine blk_far ?_ NB502_506.out _; (with_reducible repeat (first | refine bA ?_ _ | refine bB ?_ | refine bC ?_ _)); refine blk_far ?_ NB502_506.out _; (with_reducible repeat (first | refine bA ?_ _ | refine bB ?_ | refine bC ?_ _)); exact BK502.out⟩
             have n4_ : Aside0 (((w77.setCell ⟨gb506, 0, none⟩ (.int .i64 t503)).setCell ⟨gb506, 1, none⟩ (.int .i64 t504)).heap[gb506]? = some (.cells #[.int .i64 t503, .int .i64 t504] 40 (0, 0))) := ⟨by (with_reducible repeat (first | refine bA ?_ _ | refine bB ?_ | refine bC ?_ _)); refine bH (cs := #[.int .i64 t503, .int .i64 0]) ?_ 1 _ rfl; (with_reducible repeat (first | refine bA ?_ _ | refine bB ?_ | refine bC ?_ _)); refine bH (cs := #[.int .i64 0, .int .i64 0]) ?_ 0 _ rfl; (with_reducible repeat (first | refine bA ?_ _ | refine bB ?_ | refine bC ?_ _)); exact BK506.out⟩
             have n5_ : Aside0 (Below w.heap.size w ((w77.setCell ⟨gb506, 0, none⟩ (.int .i64 t503)).setCell ⟨gb506, 1, none⟩ (.int .i64 t504))) := ⟨by repeat (first | (with_reducible first | exact HB.out | apply bE | apply bD | apply bF | refine below_set ?_ GE485.out | refine below_set ?_ GE502.out | refine below_set ?_ GE506.out) | exact HB.out)⟩
             (try clear HO_5)
             (try clear HO_7)
             (try clear BK485)
             (try clear BK502)
             (try clear BK506)
             (try clear HB)
             generalize ((w77.setCell ⟨gb506, 0, none⟩ (.int .i64 t503)).setCell ⟨gb506, 1, none⟩ (.int .i64 t504)) = w81 at n0_ n1_ n2_ n3_ n4_ n5_ ⊢
             have HO_5 := n0_
             have HO_7 := n1_
             have BK485 := n2_
             have BK502 := n3_
             have BK506 := n4_
             have HB := n5_
             clear n0_ n1_ n2_ n3_ n4_ n5_
             have n0_ := zM (Kd.R_drew HO_5.out)
             have n1_ := zM (Kd.R_drew HO_7.out)
             have n2_ := zM (bB BK485.out)
             have n3_ := zM (bB BK502.out)
             have n4_ := zM (bB BK506.out)
             have n5_ := zM (bF HB.out)
             clear HO_5
             clear HO_7
             clear BK485
             clear BK502
             clear BK506
             clear HB
             have HO_5 := n0_
             have HO_7 := n1_
             have BK485 := n2_
             have BK502 := n3_
             have BK506 := n4_
             have HB := n5_
             clear n0_ n1_ n2_ n3_ n4_ n5_
             refine start_ (n := 23) (S := fun w' => True) (ds := []) #[false, false, false, false, false, false, false, false, false, false, false, false, false, false, false, false, false, false, false, false, false, false, false] (by kernel_rfl) rfl rfl trivial (fun hHeld => ?_); refine with_tabW laws_FnMarks.tab16 laws_FnMarks.bits16 (fun HT_ HW_ => ?_)
             generalize w81.drew = w82 at HO_5 HO_7 BK485 BK502 BK506 HB hHeld ⊢
             refine pure_ (i := 0) (N := some 96) (v := ?_) (a' := ?_) #[true, false, false, false, false, false, false, false, false, false, false, false, false, false, false, false, false, false, false, false, false, false, false] rfl rfl (any_of HT_.out (by kernel_rfl)) (fun _ _ _ h => h) (Or.inl ⟨by rfl, ?_⟩) ?_ ?_
             rotate_left
             ·intro w'
              go_simp
              with_reducible rfl
             rotate_left
             ·simp only [Act.put, zS, z0, z1, i64_w, i32_w]
              rfl
             refine pure_ (i := 1) (N := some 97) (v := ?_) (a' := ?_) #[true, true, false, false, false, false, false, false, false, false, false, false, false, false, false, false, false, false, false, false, false, false, false] rfl rfl (any_of HT_.out (by kernel_rfl)) (fun _ _ _ h => h) (Or.inl ⟨by rfl, ?_⟩) ?_ ?_
             rotate_left
             ·intro w'
              go_simp
              with_reducible rfl
             rotate_left
             ·simp only [Act.put, zS, z0, z1, i64_w, i32_w]
              rfl
             refine pure_ (i := 2) (N := some 98) (v := ?_) (a' := ?_) #[true, true, true, false, false, false, false, false, false, false, false, false, false, false, false, false, false, false, false, false, false, false, false] rfl rfl (any_of HT_.out (by kernel_rfl)) (fun _ _ _ h => h) (Or.inl ⟨by rfl, ?_⟩) ?_ ?_
             rotate_left
             ·intro w'
              go_simp
              with_reducible rfl
             rotate_left
             ·simp only [Act.put, zS, z0, z1, i64_w, i32_w]
              rfl
             refine pure_ (i := 3) (N := some 99) (v := ?_) (a' := ?_) #[true, true, true, true, false, false, false, false, false, false, false, false, false, false, false, false, false, false, false, false, false, false, false] rfl rfl (any_of HT_.out (by kernel_rfl)) (fun _ _ _ h => h) (Or.inl ⟨by rfl, ?_⟩) ?_ ?_
             rotate_left
             ·intro w'
              go_simp
              with_reducible rfl
             rotate_left
             ·simp only [Act.put, zS, z0, z1, i64_w, i32_w]
              rfl
             refine pure_ (i := 4) (N := some 100) (v := ?_) (a' := ?_) #[true, true, true, true, true, false, false, false, false, false, false, false, false, false, false, false, false, false, false, false, false, false, false] rfl rfl (any_of HT_.out (by kernel_rfl)) (fun _ _ _ h => h) (Or.inl ⟨by rfl, ?_⟩) ?_ ?_
             rotate_left
             ·intro w'
              go_simp
              with_reducible rfl
             rotate_left
             ·simp only [Act.put, zS, z0, z1, i64_w, i32_w]
              rfl
             refine pure_ (i := 5) (N := some 101) (v := ?_) (a' := ?_) #[true, true, true, true, true, true, false, false, false, false, false, false, false, false, false, false, false, false, false, false, false, false, false] rfl rfl (any_of HT_.out (by kernel_rfl)) (fun _ _ _ h => h) (Or.inl ⟨by rfl, ?_⟩) ?_ ?_
             rotate_left
             ·intro w'
              go_simp
              with_reducible rfl
             rotate_left
             ·simp only [Act.put, zS, z0, z1, i64_w, i32_w]
              rfl
             refine pure_ (i := 6) (N := some 102) (v := ?_) (a' := ?_) #[true, true, true, true, true, true, true, false, false, false, false, false, false, false, false, false, false, false, false, false, false, false, false] rfl rfl (any_of HT_.out (by kernel_rfl)) (fun _ _ _ h => h) (Or.inl ⟨by rfl, ?_⟩) ?_ ?_
             rotate_left
             ·intro w'
              go_simp
              with_reducible rfl
             rotate_left
             ·simp only [Act.put, zS, z0, z1, i64_w, i32_w]
              rfl
             refine pure_ (i := 7) (N := some 103) (v := undef) (a' := ?_) #[true, true, true, true, true, true, true, true, false, false, false, false, false, false, false, false, false, false, false, false, false, false, false] rfl rfl (any_of HT_.out (by kernel_rfl)) (fun _ _ _ h => h) (Or.inr ⟨by rfl, rfl⟩) ?_ ?_
             rotate_left
             ·simp only [Act.put, zS, z0, z1, i64_w, i32_w]
              rfl
             refine pure_ (i := 8) (N := some 104) (v := undef) (a' := ?_) #[true, true, true, true, true, true, true, true, true, false, false, false, false, false, false, false, false, false, false, false, false, false, false] rfl rfl (any_of HT_.out (by kernel_rfl)) (fun _ _ _ h => h) (Or.inr ⟨by rfl, rfl⟩) ?_ ?_
             rotate_left
             ·simp only [Act.put, zS, z0, z1, i64_w, i32_w]
              rfl
             refine pure_ (i := 9) (N := some 105) (v := undef) (a' := ?_) #[true, true, true, true, true, true, true, true, true, true, false, false, false, false, false, false, false, false, false, false, false, false, false] rfl rfl (any_of HT_.out (by kernel_rfl)) (fun _ _ _ h => h) (Or.inr ⟨by rfl, rfl⟩) ?_ ?_
             rotate_left
             ·simp only [Act.put, zS, z0, z1, i64_w, i32_w]
              rfl
             refine pure_ (i := 10) (N := some 106) (v := undef) (a' := ?_) #[true, true, true, true, true, true, true, true, true, true, true, false, false, false, false, false, false, false, false, false, false, false, false] rfl rfl (any_of HT_.out (by kernel_rfl)) (fun _ _ _ h => h) (Or.inr ⟨by rfl, rfl⟩) ?_ ?_
             rotate_left
             ·simp only [Act.put, zS, z0, z1, i64_w, i32_w]
              rfl
             refine pure_ (i := 11) (N := some 107) (v := undef) (a' := ?_) #[true, true, true, true, true, true, true, true, true, true, true, true, false, false, false, false, false, false, false, false, false, false, false] rfl rfl (any_of HT_.out (by kernel_rfl)) (fun _ _ _ h => h) (Or.inr ⟨by rfl, rfl⟩) ?_ ?_
             rotate_left
             ·simp only [Act.put, zS, z0, z1, i64_w, i32_w]
              rfl
             refine pure_ (i := 12) (N := some 108) (v := undef) (a' := ?_) #[true, true, true, true, true, true, true, true, true, true, true, true, true, false, false, false, false, false, false, false, false, false, false] rfl rfl (any_of HT_.out (by kernel_rfl)) (fun _ _ _ h => h) (Or.inr ⟨by rfl, rfl⟩) ?_ ?_
             rotate_left
             ·simp only [Act.put, zS, z0, z1, i64_w, i32_w]
              rfl
             refine pure_ (i := 13) (N := some 109) (v := undef) (a' := ?_) #[true, true, true, true, true, true, true, true, true, true, true, true, true, true, false, false, false, false, false, false, false, false, false] rfl rfl (any_of HT_.out (by kernel_rfl)) (fun _ _ _ h => h) (Or.inr ⟨by rfl, rfl⟩) ?_ ?_
             rotate_left
             ·simp only [Act.put, zS, z0, z1, i64_w, i32_w]
              rfl
             refine pure_ (i := 14) (N := some 110) (v := undef) (a' := ?_) #[true, true, true, true, true, true, true, true, true, true, true, true, true, true, true, false, false, false, false, false, false, false, false] rfl rfl (any_of HT_.out (by kernel_rfl)) (fun _ _ _ h => h) (Or.inr ⟨by rfl, rfl⟩) ?_ ?_
             rotate_left
             ·simp only [Act.put, zS, z0, z1, i64_w, i32_w]
              rfl
             refine pure_ (i := 15) (N := some 111) (v := undef) (a' := ?_) #[true, true, true, true, true, true, true, true, true, true, true, true, true, true, true, true, false, false, false, false, false, false, false] rfl rfl (any_of HT_.out (by kernel_rfl)) (fun _ _ _ h => h) (Or.inr ⟨by rfl, rfl⟩) ?_ ?_
             rotate_left
             ·simp only [Act.put, zS, z0, z1, i64_w, i32_w]
              rfl
             refine pure_ (i := 16) (N := some 112) (v := undef) (a' := ?_) #[true, true, true, true, true, true, true, true, true, true, true, true, true, true, true, true, true, false, false, false, false, false, false] rfl rfl (any_of HT_.out (by kernel_rfl)) (fun _ _ _ h => h) (Or.inr ⟨by rfl, rfl⟩) ?_ ?_
             rotate_left
             ·simp only [Act.put, zS, z0, z1, i64_w, i32_w]
              rfl
             refine pure_ (i := 17) (N := some 113) (v := undef) (a' := ?_) #[true, true, true, true, true, true, true, true, true, true, true, true, true, true, true, true, true, true, false, false, false, false, false] rfl rfl (any_of HT_.out (by kernel_rfl)) (fun _ _ _ h => h) (Or.inr ⟨by rfl, rfl⟩) ?_ ?_
             rotate_left
             ·simp only [Act.put, zS, z0, z1, i64_w, i32_w]
              rfl
             refine pure_ (i := 18) (N := some 114) (v := undef) (a' := ?_) #[true, true, true, true, true, true, true, true, true, true, true, true, true, true, true, true, true, true, true, false, false, false, false] rfl rfl (any_of HT_.out (by kernel_rfl)) (fun _ _ _ h => h) (Or.inr ⟨by rfl, rfl⟩) ?_ ?_
             rotate_left
             ·simp only [Act.put, zS, z0, z1, i64_w, i32_w]
              rfl
             refine pure_ (i := 19) (N := some 115) (v := undef) (a' := ?_) #[true, true, true, true, true, true, true, true, true, true, true, true, true, true, true, true, true, true, true, true, false, false, false] rfl rfl (any_of HT_.out (by kernel_rfl)) (fun _ _ _ h => h) (Or.inr ⟨by rfl, rfl⟩) ?_ ?_
             rotate_left
             ·simp only [Act.put, zS, z0, z1, i64_w, i32_w]
              rfl
             refine pure_ (i := 20) (N := some 116) (v := ?_) (a' := ?_) #[true, true, true, true, true, true, true, true, true, true, true, true, true, true, true, true, true, true, true, true, true, false, false] rfl rfl (any_of HT_.out (by kernel_rfl)) (fun _ _ _ h => h) (Or.inl ⟨by rfl, ?_⟩) ?_ ?_
             rotate_left
             ·intro w'
              go_simp
              with_reducible rfl
             rotate_left
             ·simp only [Act.put, zS, z0, z1, i64_w, i32_w]
              rfl
             refine pure_ (i := 21) (N := some 117) (v := ?_) (a' := ?_) #[true, true, true, true, true, true, true, true, true, true, true, true, true, true, true, true, true, true, true, true, true, true, false] rfl rfl (any_of HT_.out (by kernel_rfl)) (fun _ _ _ h => h) (Or.inl ⟨by rfl, ?_⟩) ?_ ?_
             rotate_left
             ·intro w'
              go_simp
              with_reducible rfl
             rotate_left
             ·simp only [Act.put, zS, z0, z1, i64_w, i32_w]
              rfl
             refine pure_ (i := 22) (N := some 2) (v := ?_) (a' := ?_) #[true, true, true, true, true, true, true, true, true, true, true, true, true, true, true, true, true, true, true, true, true, true, true] rfl rfl (any_of HT_.out (by kernel_rfl)) (fun _ _ _ h => h) (Or.inl ⟨by rfl, ?_⟩) ?_ ?_
             rotate_left
             ·intro w'
              go_simp
              with_reducible rfl
             rotate_left
             ·simp only [Act.put, zS, z0, z1, i64_w, i32_w]
              rfl
             refine done_ (done_of HT_.out (by kernel_rfl)) ?_
             try go_wp2
             go_ret
             exact ⟨by first | rfl | (simp [*, errW_none, errW_some] <;> rfl), by repeat (first | (with_reducible first | exact HB.out | apply bE | apply bD | apply bF | refine below_set ?_ GE485.out | refine below_set ?_ GE502.out | refine below_set ?_ GE506.out) | exact HB.out)⟩
           ·rw [if_neg c45] at H
            have c45b0 : (t501 == t505) = false := by simpa using c45
            (try (have c45b1 : decide (t501 = t505) = false := by simpa using c45))
            (try (have c45b2 : (t501 == t505) = false := by simpa using c45))
            (try (have c45b3 : ¬ (t501 = t505) := by simpa using c45))
            clear c45
            obtain rfl := Option.some.inj H
            exact absurd HR.out (by decide)

/-- THE ONE PURE STATEMENT of laws_FnMarks: yours. -/
def laws_FnMarks.Pure : Prop := ∀ (l0 : List Int), l0.length ≤ maxLen → l0.length * 1 ≤ 140737488351232 → (∀ x ∈ l0, (Lit.int .u8 x).wf = true) → ∃ k, laws_FnMarks.f k l0 = some true
theorem laws_FnMarks.walk (P : laws_FnMarks.Pure) (a0 : Option Addr) (len0 cap0 : Nat) (z0 : List Int) (w : World) (w0 : (a0 = none ∧ len0 = 0 ∧ cap0 = 0 ∧ z0 = []) ∨ ∃ x, a0 = some x ∧ len0 ≤ cap0 ∧ cap0 ≤ maxLen ∧ z0.length = cap0 ∧ (∀ i, i < z0.length → w.cell? (x.add i) = some (.int .u8 (z0.getD i 0))) ∧ ∀ n ∈ z0, (Lit.int .u8 n).wf = true) (y0 : len0 * 1 ≤ 140737488351232) :
  Calls Try.prog 10 #[.slice a0 len0 cap0] w fun e w' => e = .returned (.bool true) ∧ Below w.heap.size w w' := by
 obtain ⟨l0, rfl, hr0, hm0, hw0, hc0⟩ := ReadsInt.ofRowC w0
 obtain ⟨k, h⟩ := P l0 hm0 y0 hw0
 refine (laws_FnMarks.calls k _ _ l0 true w (Kd.C_of_reads (d := (0 : Int)) (h1 := fun _ => rfl) hr0) hc0 (zM rfl) h).mono ?_
 rintro e w' ⟨rfl, hd⟩
 exact ⟨rfl, hd⟩

end Go.Proofs.Ytlikojcfjamgpaa.XFnMarks
