-- Written by a program of this claim's session (wip/xprint.py), out of the translation.
import Derived.Test.YtpnfbekbkeiahaaTESplitMsgsXFnExactSplitMsgsx0
import Derived.Test.YtpnfbekbkeiahaaTESplitMsgsXFnExactSplitMsgsx3
import Derived.Test.YtpnfbekbkeiahaaTESplitMsgsXFnExactSplitMsgsx4
import Derived.Test.YtpnfbekbkeiahaaTESplitMsgsXFnExactSplitMsgsx8
import Derived.Test.YtpnfbekbkeiahaaTESplitMsgsXFnExactSplitMsgsx11
import Derived.Test.YtpnfbekbkeiahaaTESplitMsgsXFnExactSplitMsgsx12
namespace Go.Proofs.Ytpnfbekbkeiahaa.XFnExactSplitMsgs
open Go.RowKit Go.Proofs.YtpnfbekbkeiahaaW.PrintWords Go.Proofs.YtpnfbekbkeiahaaW.PrintLast Go.Proofs.YtpnfbekbkeiahaaW.PrintMore
open Go.Proofs.YtpnfbekbkeiahaaW.PrintWords renaming blk_drewN → bA, blk_drew → bB, blk_alloc → bC, pw_below_drewN → bD, below_alloc → bE, below_drew1 → bF, Aside0.mk → zM, below_step → bG, blk_put → bH
open List renaming setIfInBounds_toArray → zS, set_cons_zero → z0, set_cons_succ → z1
attribute [local go_sem] max2_int min2_int max_two min_two max_three min_three max_four min_four
set_option linter.unusedVariables false
set_option linter.unusedSimpArgs false
set_option maxHeartbeats 8000000
set_option maxRecDepth 100000

/-! ### laws_FnExactSplitMsgs: function 7 -/
mutual
def laws_FnExactSplitMsgs.j0 : Nat → List Int → List (S32) → Int → Int → List Int → List (S32) → Int → Int → Bool → Option (Bool)
 | 0, _, _, _, _, _, _, _, _, _ => none
 | k + 1, x0, x3, x4, x5, x6, x7, x8, x9, x47 => if x47 = true then (some false) else ((laws_toByteS.f k x0).bind fun t302 => ((laws_eqByteS.f k x6 t302).bind fun t305 => (if t305 = true then ((laws_markByteS.f k x6 1).bind fun bt306 => (if bt306.1 < 0 then (laws_FnExactSplitMsgs.j1 k x0 x3 x4 x5 x7 true) else ((laws_eqMsgS.f k x7 x3).bind fun t308 => (if t308 = true then (if x8 = x4 then (laws_FnExactSplitMsgs.j1 k x0 x3 x4 x5 x7 (x9 != x5)) else (laws_FnExactSplitMsgs.j1 k x0 x3 x4 x5 x7 true)) else (laws_FnExactSplitMsgs.j1 k x0 x3 x4 x5 x7 true))))) else (some false))))
def laws_FnExactSplitMsgs.j1 : Nat → List Int → List (S32) → Int → Int → List (S32) → Bool → Option (Bool)
 | 0, _, _, _, _, _, _ => none
 | k + 1, x0, x3, x4, x5, x7, x73 => if x73 = true then (some false) else ((laws_markMsgS.f k x7 1).bind fun bt309 => ((laws_heldMsgS.f k bt309.2 1).bind fun t311 => (if t311 < 0 then (some false) else (if t311 = bt309.1 then ((laws_toByteS.f k x0).bind fun t312 => ((impl_SplitMsgs.f k t312).bind fun bt315 => ((laws_eqMsgS.f k bt315.1 x3).bind fun t320 => (if t320 = true then (if bt315.2.1 = x4 then (laws_FnExactSplitMsgs.j2 k bt309.2 bt309.1 (bt315.2.2 != x5)) else (laws_FnExactSplitMsgs.j2 k bt309.2 bt309.1 true)) else (laws_FnExactSplitMsgs.j2 k bt309.2 bt309.1 true))))) else (some false)))))
def laws_FnExactSplitMsgs.j2 : Nat → List (S32) → Int → Bool → Option (Bool)
 | 0, _, _, _ => none
 | k + 1, x7, x11, x105 => if x105 = true then (some false) else ((laws_heldMsgS.f k x7 1).bind fun t321 => (if t321 < 0 then (some false) else (if t321 = x11 then (some true) else (some false))))
end
def laws_FnExactSplitMsgs.f (k : Nat) (l0 : List Int) : Option (Bool) := if (l0.length : Int) > 1048576 then (some true) else ((laws_toByteS.f k l0).bind fun t285 => ((spec_SplitMsgs.f k t285).bind fun bt288 => ((laws_toByteS.f k l0).bind fun t293 => ((impl_SplitMsgs.f k t293).bind fun bt296 => ((laws_eqMsgS.f k bt296.1 bt288.1).bind fun t301 => (if t301 = true then (if bt296.2.1 = bt288.2.1 then (laws_FnExactSplitMsgs.j0 k l0 bt288.1 bt288.2.1 bt288.2.2 t293 bt296.1 bt296.2.1 bt296.2.2 (bt296.2.2 != bt288.2.2)) else (laws_FnExactSplitMsgs.j0 k l0 bt288.1 bt288.2.1 bt288.2.2 t293 bt296.1 bt296.2.1 bt296.2.2 true)) else (laws_FnExactSplitMsgs.j0 k l0 bt288.1 bt288.2.1 bt288.2.2 t293 bt296.1 bt296.2.1 bt296.2.2 true)))))))
theorem laws_FnExactSplitMsgs.mono_l : ∀ k, (∀ y0 y1 y2 y3 y4 y5 y6 y7 y8, LeO (laws_FnExactSplitMsgs.j0 k y0 y1 y2 y3 y4 y5 y6 y7 y8) (laws_FnExactSplitMsgs.j0 (k + 1) y0 y1 y2 y3 y4 y5 y6 y7 y8)) ∧ (∀ y0 y1 y2 y3 y4 y5, LeO (laws_FnExactSplitMsgs.j1 k y0 y1 y2 y3 y4 y5) (laws_FnExactSplitMsgs.j1 (k + 1) y0 y1 y2 y3 y4 y5)) ∧ (∀ y0 y1 y2, LeO (laws_FnExactSplitMsgs.j2 k y0 y1 y2) (laws_FnExactSplitMsgs.j2 (k + 1) y0 y1 y2))
 | 0 => ⟨fun _ _ _ _ _ _ _ _ _ r h => by simp [laws_FnExactSplitMsgs.j0] at h, fun _ _ _ _ _ _ r h => by simp [laws_FnExactSplitMsgs.j1] at h, fun _ _ _ r h => by simp [laws_FnExactSplitMsgs.j2] at h⟩
 | k + 1 => by
  obtain ⟨ih0, ih1, ih2⟩ := laws_FnExactSplitMsgs.mono_l k
  refine ⟨?_, ?_, ?_⟩
  ·intro y0 y1 y2 y3 y4 y5 y6 y7 y8
   unfold laws_FnExactSplitMsgs.j0
   repeat' first
   | (with_reducible exact ih0 _ _ _ _ _ _ _ _ _)
   | (with_reducible exact ih1 _ _ _ _ _ _)
   | (with_reducible exact ih2 _ _ _)
   | (with_reducible exact impl_SplitMsgs.mono _ _)
   | (with_reducible exact laws_eqByteS.mono _ _ _)
   | (with_reducible exact laws_eqMsgS.mono _ _ _)
   | (with_reducible exact laws_heldMsgS.mono _ _ _)
   | (with_reducible exact laws_markByteS.mono _ _ _)
   | (with_reducible exact laws_markMsgS.mono _ _ _)
   | (with_reducible exact laws_toByteS.mono _ _)
   | (with_reducible exact spec_SplitMsgs.mono _ _)
   | (with_reducible exact LeO.refl _)
   | (with_reducible exact LeO.none _)
   | (with_reducible refine LeO.ite ?_ ?_)
   | (with_reducible refine LeO.bind ?_ (fun _ => ?_))
   | exact ih0 _ _ _ _ _ _ _ _ _
   | exact ih1 _ _ _ _ _ _
   | exact ih2 _ _ _
   | exact impl_SplitMsgs.mono _ _
   | exact laws_eqByteS.mono _ _ _
   | exact laws_eqMsgS.mono _ _ _
   | exact laws_heldMsgS.mono _ _ _
   | exact laws_markByteS.mono _ _ _
   | exact laws_markMsgS.mono _ _ _
   | exact laws_toByteS.mono _ _
   | exact spec_SplitMsgs.mono _ _
   | exact LeO.none _
   | refine LeO.ite ?_ ?_
   | refine LeO.bind ?_ (fun _ => ?_)
  ·intro y0 y1 y2 y3 y4 y5
   unfold laws_FnExactSplitMsgs.j1
   repeat' first
   | (with_reducible exact ih0 _ _ _ _ _ _ _ _ _)
   | (with_reducible exact ih1 _ _ _ _ _ _)
   | (with_reducible exact ih2 _ _ _)
   | (with_reducible exact impl_SplitMsgs.mono _ _)
   | (with_reducible exact laws_eqByteS.mono _ _ _)
   | (with_reducible exact laws_eqMsgS.mono _ _ _)
   | (with_reducible exact laws_heldMsgS.mono _ _ _)
   | (with_reducible exact laws_markByteS.mono _ _ _)
   | (with_reducible exact laws_markMsgS.mono _ _ _)
   | (with_reducible exact laws_toByteS.mono _ _)
   | (with_reducible exact spec_SplitMsgs.mono _ _)
   | (with_reducible exact LeO.refl _)
   | (with_reducible exact LeO.none _)
   | (with_reducible refine LeO.ite ?_ ?_)
   | (with_reducible refine LeO.bind ?_ (fun _ => ?_))
   | exact ih0 _ _ _ _ _ _ _ _ _
   | exact ih1 _ _ _ _ _ _
   | exact ih2 _ _ _
   | exact impl_SplitMsgs.mono _ _
   | exact laws_eqByteS.mono _ _ _
   | exact laws_eqMsgS.mono _ _ _
   | exact laws_heldMsgS.mono _ _ _
   | exact laws_markByteS.mono _ _ _
   | exact laws_markMsgS.mono _ _ _
   | exact laws_toByteS.mono _ _
   | exact spec_SplitMsgs.mono _ _
   | exact LeO.none _
   | refine LeO.ite ?_ ?_
   | refine LeO.bind ?_ (fun _ => ?_)
  ·intro y0 y1 y2
   unfold laws_FnExactSplitMsgs.j2
   repeat' first
   | (with_reducible exact ih0 _ _ _ _ _ _ _ _ _)
   | (with_reducible exact ih1 _ _ _ _ _ _)
   | (with_reducible exact ih2 _ _ _)
   | (with_reducible exact impl_SplitMsgs.mono _ _)
   | (with_reducible exact laws_eqByteS.mono _ _ _)
   | (with_reducible exact laws_eqMsgS.mono _ _ _)
   | (with_reducible exact laws_heldMsgS.mono _ _ _)
   | (with_reducible exact laws_markByteS.mono _ _ _)
   | (with_reducible exact laws_markMsgS.mono _ _ _)
   | (with_reducible exact laws_toByteS.mono _ _)
   | (with_reducible exact spec_SplitMsgs.mono _ _)
   | (with_reducible exact LeO.refl _)
   | (with_reducible exact LeO.none _)
   | (with_reducible refine LeO.ite ?_ ?_)
   | (with_reducible refine LeO.bind ?_ (fun _ => ?_))
   | exact ih0 _ _ _ _ _ _ _ _ _
   | exact ih1 _ _ _ _ _ _
   | exact ih2 _ _ _
   | exact impl_SplitMsgs.mono _ _
   | exact laws_eqByteS.mono _ _ _
   | exact laws_eqMsgS.mono _ _ _
   | exact laws_heldMsgS.mono _ _ _
   | exact laws_markByteS.mono _ _ _
   | exact laws_markMsgS.mono _ _ _
   | exact laws_toByteS.mono _ _
   | exact spec_SplitMsgs.mono _ _
   | exact LeO.none _
   | refine LeO.ite ?_ ?_
   | refine LeO.bind ?_ (fun _ => ?_)
theorem laws_FnExactSplitMsgs.mono : ∀ a0 k, LeO (laws_FnExactSplitMsgs.f k a0) (laws_FnExactSplitMsgs.f (k + 1) a0) := by
 intro a0 k
 obtain ⟨ih0, ih1, ih2⟩ := laws_FnExactSplitMsgs.mono_l k
 unfold laws_FnExactSplitMsgs.f
 repeat' first
   | (with_reducible exact ih0 _ _ _ _ _ _ _ _ _)
   | (with_reducible exact ih1 _ _ _ _ _ _)
   | (with_reducible exact ih2 _ _ _)
   | (with_reducible exact impl_SplitMsgs.mono _ _)
   | (with_reducible exact laws_eqByteS.mono _ _ _)
   | (with_reducible exact laws_eqMsgS.mono _ _ _)
   | (with_reducible exact laws_heldMsgS.mono _ _ _)
   | (with_reducible exact laws_markByteS.mono _ _ _)
   | (with_reducible exact laws_markMsgS.mono _ _ _)
   | (with_reducible exact laws_toByteS.mono _ _)
   | (with_reducible exact spec_SplitMsgs.mono _ _)
   | (with_reducible exact LeO.refl _)
   | (with_reducible exact LeO.none _)
   | (with_reducible refine LeO.ite ?_ ?_)
   | (with_reducible refine LeO.bind ?_ (fun _ => ?_))
   | exact ih0 _ _ _ _ _ _ _ _ _
   | exact ih1 _ _ _ _ _ _
   | exact ih2 _ _ _
   | exact impl_SplitMsgs.mono _ _
   | exact laws_eqByteS.mono _ _ _
   | exact laws_eqMsgS.mono _ _ _
   | exact laws_heldMsgS.mono _ _ _
   | exact laws_markByteS.mono _ _ _
   | exact laws_markMsgS.mono _ _ _
   | exact laws_toByteS.mono _ _
   | exact spec_SplitMsgs.mono _ _
   | exact LeO.none _
   | refine LeO.ite ?_ ?_
   | refine LeO.bind ?_ (fun _ => ?_)
theorem laws_FnExactSplitMsgs.calls (k : Nat) (A0 : Option Addr) (c0 : Nat) (l0 : List Int) (r : Bool) (w : World) (hr0 : Kd.C (Kd.int .u8) w A0 l0.length l0) (hc0 : l0.length ≤ c0) (HR : Aside0 (r = true)) (h : laws_FnExactSplitMsgs.f k l0 = some r) :
  Calls Try.prog 7 #[.slice A0 l0.length c0] w fun e w' => e = .returned (.bool r) ∧ Below w.heap.size w w' := by
 have HR0 := zM hr0
 have HC0 := zM hc0
 clear hr0 hc0
 have HB := zM (Below.refl w.heap.size w)
 have H : (if (l0.length : Int) > 1048576 then (some true) else ((laws_toByteS.f k l0).bind fun t285 => ((spec_SplitMsgs.f k t285).bind fun bt288 => ((laws_toByteS.f k l0).bind fun t293 => ((impl_SplitMsgs.f k t293).bind fun bt296 => ((laws_eqMsgS.f k bt296.1 bt288.1).bind fun t301 => (if t301 = true then (if bt296.2.1 = bt288.2.1 then (laws_FnExactSplitMsgs.j0 k l0 bt288.1 bt288.2.1 bt288.2.2 t293 bt296.1 bt296.2.1 bt296.2.2 (bt296.2.2 != bt288.2.2)) else (laws_FnExactSplitMsgs.j0 k l0 bt288.1 bt288.2.1 bt288.2.2 t293 bt296.1 bt296.2.1 bt296.2.2 true)) else (laws_FnExactSplitMsgs.j0 k l0 bt288.1 bt288.2.1 bt288.2.2 t293 bt296.1 bt296.2.1 bt296.2.2 true)))))))) = some r := h
 clear h
 by_cases c2 : (l0.length : Int) > 1048576
 ·rw [if_pos c2] at H
  have c2b0 : decide (1048576 < (l0.length : Int)) = true := decide_eq_true c2
  have c2b1 : decide (1048576 < l0.length) = true := decide_eq_true (by omega)
  clear c2
  obtain rfl := Option.some.inj H
  simp only [zI, zJ] at H
  obtain ⟨rfl⟩ := H
  go_enter Try.func7, Try.ntmps7
  go_wp2
  go_ret
  exact ⟨by first | rfl | (simp [*, errW_none, errW_some] <;> rfl), by repeat (first | (with_reducible first | exact HB.out | apply bE | apply bD | apply bF) | exact HB.out)⟩
 ·rw [if_neg c2] at H
  have c2b0 : decide (1048576 < (l0.length : Int)) = false := decide_eq_false c2
  have c2b1 : decide (1048576 < l0.length) = false := decide_eq_false (by omega)
  clear c2
  replace H := zO H
  obtain ⟨t285, A30, H⟩ := H
  replace H : ((spec_SplitMsgs.f k t285).bind fun bt288 => ((laws_toByteS.f k l0).bind fun t293 => ((impl_SplitMsgs.f k t293).bind fun bt296 => ((laws_eqMsgS.f k bt296.1 bt288.1).bind fun t301 => (if t301 = true then (if bt296.2.1 = bt288.2.1 then (laws_FnExactSplitMsgs.j0 k l0 bt288.1 bt288.2.1 bt288.2.2 t293 bt296.1 bt296.2.1 bt296.2.2 (bt296.2.2 != bt288.2.2)) else (laws_FnExactSplitMsgs.j0 k l0 bt288.1 bt288.2.1 bt288.2.2 t293 bt296.1 bt296.2.1 bt296.2.2 true)) else (laws_FnExactSplitMsgs.j0 k l0 bt288.1 bt288.2.1 bt288.2.2 t293 bt296.1 bt296.2.1 bt296.2.2 true)))))) = some r := H
  have A3 := zM A30
  clear A30
  replace H := zO H
  obtain ⟨⟨t288, t289, t290⟩, A40, H⟩ := H
  replace H : ((laws_toByteS.f k l0).bind fun t293 => ((impl_SplitMsgs.f k t293).bind fun bt296 => ((laws_eqMsgS.f k bt296.1 t288).bind fun t301 => (if t301 = true then (if bt296.2.1 = t289 then (laws_FnExactSplitMsgs.j0 k l0 t288 t289 t290 t293 bt296.1 bt296.2.1 bt296.2.2 (bt296.2.2 != t290)) else (laws_FnExactSplitMsgs.j0 k l0 t288 t289 t290 t293 bt296.1 bt296.2.1 bt296.2.2 true)) else (laws_FnExactSplitMsgs.j0 k l0 t288 t289 t290 t293 bt296.1 bt296.2.1 bt296.2.2 true))))) = some r := H
  have A4 := zM A40
  clear A40
  replace H := zO H
  obtain ⟨t293, A50, H⟩ := H
  replace H : ((impl_SplitMsgs.f k t293).bind fun bt296 => ((laws_eqMsgS.f k bt296.1 t288).bind fun t301 => (if t301 = true then (if bt296.2.1 = t289 then (laws_FnExactSplitMsgs.j0 k l0 t288 t289 t290 t293 bt296.1 bt296.2.1 bt296.2.2 (bt296.2.2 != t290)) else (laws_FnExactSplitMsgs.j0 k l0 t288 t289 t290 t293 bt296.1 bt296.2.1 bt296.2.2 true)) else (laws_FnExactSplitMsgs.j0 k l0 t288 t289 t290 t293 bt296.1 bt296.2.1 bt296.2.2 true)))) = some r := H
  have A5 := zM A50
  clear A50
  replace H := zO H
  obtain ⟨⟨t296, t297, t298⟩, A60, H⟩ := H
  replace H : ((laws_eqMsgS.f k t296 t288).bind fun t301 => (if t301 = true then (if t297 = t289 then (laws_FnExactSplitMsgs.j0 k l0 t288 t289 t290 t293 t296 t297 t298 (t298 != t290)) else (laws_FnExactSplitMsgs.j0 k l0 t288 t289 t290 t293 t296 t297 t298 true)) else (laws_FnExactSplitMsgs.j0 k l0 t288 t289 t290 t293 t296 t297 t298 true))) = some r := H
  have A6 := zM A60
  clear A60
  have HC7 := zM H
  clear H
  go_enter Try.func7, Try.ntmps7
  go_upto_region 6 with (first | ((with_reducible refine gate_callee (f := 18) rfl ?_); refine goesL_ (some 21) rfl rfl Try.func18 (by kernel_rfl) rfl #[.slice A0 l0.length c0] rfl (by (try simp only [List.map_toArray, List.map_cons, List.map_nil]); first | done | rfl) ?_; (with_reducible refine (laws_toByteS.calls k _ _ l0 t285 _ ?side1 ?side2 A3.out).mono ?_); (case side1 => repeat (first | exact HR0.out | (with_reducible refine Kd.C_alloc ?_ _) | (with_reducible refine Kd.C_drewN ?_ _) | (with_reducible refine Kd.C_drew ?_))); (case side2 => exact HC0.out); rintro e w8 ⟨v286, rfl, ho0, hb⟩; refine ⟨_, rfl, ?_⟩; have n0_ := zM (Kd.R_lower ho0 (below_size (by repeat (first | (with_reducible first | exact HB.out | apply bE | apply bD | apply bF) | exact HB.out)))); have n1_ := zM (bG (by repeat (first | (with_reducible first | exact HB.out | apply bE | apply bD | apply bF) | exact HB.out)) hb); clear HB; have HO287 := n0_; have HB := n1_; clear n0_ n1_; (try clear hb); (try clear hk); (try clear hi); (try clear ho0); obtain ⟨Ao9, co9, eo9⟩ := Kd.R_slice HO287.out; subst eo9) | ((with_reducible refine gate_callee (f := 31) rfl ?_); refine goesL_ (some 22) rfl rfl Try.func31 (by kernel_rfl) rfl #[.slice Ao9 t285.length co9] rfl (by (try simp only [List.map_toArray, List.map_cons, List.map_nil]); first | done | rfl) ?_; (with_reducible refine (spec_SplitMsgs.calls k _ _ t285 t288 t289 t290 _ ?side1 ?side2 A4.out).mono ?_); (case side1 => repeat (first | exact (Kd.R_reads' HO287.out).2.2 | (with_reducible refine Kd.C_alloc ?_ _) | (with_reducible refine Kd.C_drewN ?_ _) | (with_reducible refine Kd.C_drew ?_))); (case side2 => exact (Kd.R_reads' HO287.out).2.1); rintro e w10 ⟨v291, rfl, ho0, hb⟩; refine ⟨_, rfl, ?_⟩; have n0_ := zM (Kd.R_below (by (with_reducible repeat (first | apply Kd.R_alloc | apply Kd.R_drewN | apply Kd.R_drew)); exact HO287.out) hb); have n1_ := zM (Kd.R_lower ho0 (below_size (by repeat (first | (with_reducible first | exact HB.out | apply bE | apply bD | apply bF) | exact HB.out)))); have n2_ := zM (bG (by repeat (first | (with_reducible first | exact HB.out | apply bE | apply bD | apply bF) | exact HB.out)) hb); clear HO287; clear HB; have HO287 := n0_; have HO292 := n1_; have HB := n2_; clear n0_ n1_ n2_; (try clear hb); (try clear hk); (try clear hi); (try clear ho0)) | ((with_reducible refine gate_callee (f := 18) rfl ?_); refine goesL_ (some 27) rfl rfl Try.func18 (by kernel_rfl) rfl #[.slice A0 l0.length c0] rfl (by (try simp only [List.map_toArray, List.map_cons, List.map_nil]); first | done | rfl) ?_; (with_reducible refine (laws_toByteS.calls k _ _ l0 t293 _ ?side1 ?side2 A5.out).mono ?_); (case side1 => repeat (first | exact (Kd.C_below HR0.out HB.out) | (with_reducible refine Kd.C_alloc ?_ _) | (with_reducible refine Kd.C_drewN ?_ _) | (with_reducible refine Kd.C_drew ?_))); (case side2 => exact HC0.out); rintro e w11 ⟨v294, rfl, ho0, hb⟩; refine ⟨_, rfl, ?_⟩; have n0_ := zM (Kd.R_elder' (by (with_reducible repeat (first | apply Kd.R_alloc | apply Kd.R_drewN | apply Kd.R_drew)); exact HO287.out) (Kd.R_base ho0) hb); have n1_ := zM (Kd.R_below (by (with_reducible repeat (first | apply Kd.R_alloc | apply Kd.R_drewN | apply Kd.R_drew)); exact HO292.out) hb); have n2_ := zM (Kd.R_lower (Kd.R_new' ho0 (Kd.R_lt (by (with_reducible repeat (first | apply Kd.R_alloc | apply Kd.R_drewN | apply Kd.R_drew)); exact HO287.out))) (below_size (by repeat (first | (with_reducible first | exact HB.out | apply bE | apply bD | apply bF) | exact HB.out)))); have n3_ := zM (bG (by repeat (first | (with_reducible first | exact HB.out | apply bE | apply bD | apply bF) | exact HB.out)) hb); clear HO287; clear HO292; clear HB; have HO287 := n0_; have HO292 := n1_; have HO295 := n2_; have HB := n3_; clear n0_ n1_ n2_ n3_; (try clear hb); (try clear hk); (try clear hi); (try clear ho0); obtain ⟨Ao12, co12, eo12⟩ := Kd.R_slice HO295.out; subst eo12) | ((with_reducible refine gate_callee (f := 32) rfl ?_); refine goesL_ (some 30) rfl rfl Try.func32 (by kernel_rfl) rfl #[.slice Ao12 t293.length co12] rfl (by (try simp only [List.map_toArray, List.map_cons, List.map_nil]); first | done | rfl) ?_; (with_reducible refine (impl_SplitMsgs.calls k _ _ t293 t296 t297 t298 _ ?side1 ?side2 A6.out).mono ?_); (case side1 => repeat (first | exact (Kd.R_reads' HO295.out).2.2 | (with_reducible refine Kd.C_alloc ?_ _) | (with_reducible refine Kd.C_drewN ?_ _) | (with_reducible refine Kd.C_drew ?_))); (case side2 => exact (Kd.R_reads' HO295.out).2.1); rintro e w13 ⟨v299, rfl, ho0, hb⟩; refine ⟨_, rfl, ?_⟩; have n0_ := zM (Kd.R_below (by (with_reducible repeat (first | apply Kd.R_alloc | apply Kd.R_drewN | apply Kd.R_drew)); exact HO287.out) hb); have n1_ := zM (Kd.R_elder' (by (with_reducible repeat (first | apply Kd.R_alloc | apply Kd.R_drewN | apply Kd.R_drew)); exact HO292.out) (Kd.R_base ho0) hb); have n2_ := zM (Kd.R_below (by (with_reducible repeat (first | apply Kd.R_alloc | apply Kd.R_drewN | apply Kd.R_drew)); exact HO295.out) hb); have n3_ := zM (Kd.R_lower (Kd.R_new' ho0 (Kd.R_lt (by (with_reducible repeat (first | apply Kd.R_alloc | apply Kd.R_drewN | apply Kd.R_drew)); exact HO292.out))) (below_size (by repeat (first | (with_reducible first | exact HB.out | apply bE | apply bD | apply bF) | exact HB.out)))); have n4_ := zM (bG (by repeat (first | (with_reducible first | exact HB.out | apply bE | apply bD | apply bF) | exact HB.out)) hb); clear HO287; clear HO292; clear HO295; clear HB; have HO287 := n0_; have HO292 := n1_; have HO295 := n2_; have HO300 := n3_; have HB := n4_; clear n0_ n1_ n2_ n3_ n4_; (try clear hb); (try clear hk); (try clear hi); (try clear ho0)))
  (try simp only [Act.put, zS, z0, z1])
  go_cut [47] (fun v47 wc => ∃ (kq : Nat) (x47_6 : Bool), v47 = .bool x47_6 ∧ Aside0 (laws_FnExactSplitMsgs.j0 kq l0 t288 t289 t290 t293 t296 t297 t298 x47_6 = some r) ∧ Aside0 (kq ≤ k) ∧ Aside0 (Kd.R k32 32 wc w.heap.size (fun k_ => some k_ ≠ (v299 : Value).ownBlock) v291 t288) ∧ Aside0 (Kd.R (Kd.int .u8) 5 wc w.heap.size (fun _ => True) (.slice Ao12 t293.length co12) t293) ∧ Aside0 (Kd.R k32 32 wc w.heap.size (fun k_ => some k_ ≠ (v291 : Value).ownBlock) v299 t296) ∧ Aside0 (Below w.heap.size w wc))
  case first =>
   have H := HC7.out
   clear HC7
   replace H := zO H
   obtain ⟨t301, A140, H⟩ := H
   replace H : (if t301 = true then (if t297 = t289 then (laws_FnExactSplitMsgs.j0 k l0 t288 t289 t290 t293 t296 t297 t298 (t298 != t290)) else (laws_FnExactSplitMsgs.j0 k l0 t288 t289 t290 t293 t296 t297 t298 true)) else (laws_FnExactSplitMsgs.j0 k l0 t288 t289 t290 t293 t296 t297 t298 true)) = some r := H
   have A14 := zM A140
   clear A140
   by_cases c15 : t301 = true
   ·subst c15
    have H1 : (if t297 = t289 then (laws_FnExactSplitMsgs.j0 k l0 t288 t289 t290 t293 t296 t297 t298 (t298 != t290)) else (laws_FnExactSplitMsgs.j0 k l0 t288 t289 t290 t293 t296 t297 t298 true)) = some r := by rw [if_pos rfl] at H; exact H
    clear H
    have H := H1
    clear H1
    by_cases c16 : t297 = t289
    ·rw [if_pos c16] at H
     have c16b0 : (t297 == t289) = true := beq_iff_eq.mpr c16
     have c16b1 : (t297 != t289) = false := bne_eq_false_iff_eq.mpr c16
     clear c16
     (first | rw [c16b0] | (simp only [i64_w, i32_w]; rw [c16b0]) | skip)
     have H' := zM H
     clear H
     obtain ⟨Ao17, co17, eo17⟩ := Kd.R_slice HO300.out
     subst eo17
     obtain ⟨Ao18, co18, eo18⟩ := Kd.R_slice HO292.out
     subst eo18
     go_wp2_with (first | ((with_reducible refine gate_callee (f := 29) rfl ?_); refine goesL_ (some 36) rfl rfl Try.func29 (by kernel_rfl) rfl #[.slice Ao17 t296.length co17, .slice Ao18 t288.length co18] rfl (by (try simp only [List.map_toArray, List.map_cons, List.map_nil]); first | done | rfl) ?_; (with_reducible refine (laws_eqMsgS.calls k _ _ t296 _ _ t288 true _ ?side1 ?side2 ?side3 ?side4 A14.out).mono ?_); (case side1 => repeat (first | exact (Kd.R_reads' HO300.out).2.2 | (with_reducible refine Kd.C_alloc ?_ _) | (with_reducible refine Kd.C_drewN ?_ _) | (with_reducible refine Kd.C_drew ?_))); (case side2 => exact (Kd.R_reads' HO300.out).2.1); (case side3 => repeat (first | exact (Kd.R_reads' HO292.out).2.2 | (with_reducible refine Kd.C_alloc ?_ _) | (with_reducible refine Kd.C_drewN ?_ _) | (with_reducible refine Kd.C_drew ?_))); (case side4 => exact (Kd.R_reads' HO292.out).2.1); rintro e w19 ⟨rfl, hb⟩; refine ⟨_, rfl, ?_⟩; have n0_ := zM (Kd.R_below (by (with_reducible repeat (first | apply Kd.R_alloc | apply Kd.R_drewN | apply Kd.R_drew)); exact HO287.out) hb); have n1_ := zM (Kd.R_below (by (with_reducible repeat (first | apply Kd.R_alloc | apply Kd.R_drewN | apply Kd.R_drew)); exact HO292.out) hb); have n2_ := zM (Kd.R_below (by (with_reducible repeat (first | apply Kd.R_alloc | apply Kd.R_drewN | apply Kd.R_drew)); exact HO295.out) hb); have n3_ := zM (Kd.R_below (by (with_reducible repeat (first | apply Kd.R_alloc | apply Kd.R_drewN | apply Kd.R_drew)); exact HO300.out) hb); have n4_ := zM (bG (by repeat (first | (with_reducible first | exact HB.out | apply bE | apply bD | apply bF) | exact HB.out)) hb); clear HO287; clear HO292; clear HO295; clear HO300; clear HB; have HO287 := n0_; have HO292 := n1_; have HO295 := n2_; have HO300 := n3_; have HB := n4_; clear n0_ n1_ n2_ n3_ n4_; (try clear hb); (try clear hk); (try clear hi)))
     go_meet
     case rel => exact ⟨_, ((t298 != t290)), (by first | rfl | (simp; done) | (simp [*]; done)), H', ⟨by first | omega | exact Nat.le_refl _⟩, ⟨by (with_reducible repeat (first | apply Kd.R_alloc | apply Kd.R_drewN | apply Kd.R_drew)); exact Kd.R_mono HO292.out (fun _ hk => hk.2)⟩, ⟨by (with_reducible repeat (first | apply Kd.R_alloc | apply Kd.R_drewN | apply Kd.R_drew)); exact Kd.R_mono HO295.out (fun _ hk => trivial)⟩, ⟨by (with_reducible repeat (first | apply Kd.R_alloc | apply Kd.R_drewN | apply Kd.R_drew)); exact Kd.R_mono HO300.out (fun _ hk => hk.2)⟩, ⟨by repeat (first | (with_reducible first | exact HB.out | apply bE | apply bD | apply bF) | exact HB.out)⟩⟩
    ·rw [if_neg c16] at H
     have c16b0 : (t297 == t289) = false := beq_eq_false_iff_ne.mpr c16
     have c16b1 : (t297 != t289) = true := bne_iff_ne.mpr c16
     (first | rw [c16b0] | (simp only [i64_w, i32_w]; rw [c16b0]) | skip)
     have H' := zM H
     clear H
     obtain ⟨Ao20, co20, eo20⟩ := Kd.R_slice HO300.out
     subst eo20
     obtain ⟨Ao21, co21, eo21⟩ := Kd.R_slice HO292.out
     subst eo21
     go_wp2_with (first | ((with_reducible refine gate_callee (f := 29) rfl ?_); refine goesL_ (some 36) rfl rfl Try.func29 (by kernel_rfl) rfl #[.slice Ao20 t296.length co20, .slice Ao21 t288.length co21] rfl (by (try simp only [List.map_toArray, List.map_cons, List.map_nil]); first | done | rfl) ?_; (with_reducible refine (laws_eqMsgS.calls k _ _ t296 _ _ t288 true _ ?side1 ?side2 ?side3 ?side4 A14.out).mono ?_); (case side1 => repeat (first | exact (Kd.R_reads' HO300.out).2.2 | (with_reducible refine Kd.C_alloc ?_ _) | (with_reducible refine Kd.C_drewN ?_ _) | (with_reducible refine Kd.C_drew ?_))); (case side2 => exact (Kd.R_reads' HO300.out).2.1); (case side3 => repeat (first | exact (Kd.R_reads' HO292.out).2.2 | (with_reducible refine Kd.C_alloc ?_ _) | (with_reducible refine Kd.C_drewN ?_ _) | (with_reducible refine Kd.C_drew ?_))); (case side4 => exact (Kd.R_reads' HO292.out).2.1); rintro e w22 ⟨rfl, hb⟩; refine ⟨_, rfl, ?_⟩; have n0_ := zM (Kd.R_below (by (with_reducible repeat (first | apply Kd.R_alloc | apply Kd.R_drewN | apply Kd.R_drew)); exact HO287.out) hb); have n1_ := zM (Kd.R_below (by (with_reducible repeat (first | apply Kd.R_alloc | apply Kd.R_drewN | apply Kd.R_drew)); exact HO292.out) hb); have n2_ := zM (Kd.R_below (by (with_reducible repeat (first | apply Kd.R_alloc | apply Kd.R_drewN | apply Kd.R_drew)); exact HO295.out) hb); have n3_ := zM (Kd.R_below (by (with_reducible repeat (first | apply Kd.R_alloc | apply Kd.R_drewN | apply Kd.R_drew)); exact HO300.out) hb); have n4_ := zM (bG (by repeat (first | (with_reducible first | exact HB.out | apply bE | apply bD | apply bF) | exact HB.out)) hb); clear HO287; clear HO292; clear HO295; clear HO300; clear HB; have HO287 := n0_; have HO292 := n1_; have HO295 := n2_; have HO300 := n3_; have HB := n4_; clear n0_ n1_ n2_ n3_ n4_; (try clear hb); (try clear hk); (try clear hi)))
     go_meet
     case rel => exact ⟨_, (true), (by first | rfl | (simp; done) | (simp [*]; done)), H', ⟨by first | omega | exact Nat.le_refl _⟩, ⟨by (with_reducible repeat (first | apply Kd.R_alloc | apply Kd.R_drewN | apply Kd.R_drew)); exact Kd.R_mono HO292.out (fun _ hk => hk.2)⟩, ⟨by (with_reducible repeat (first | apply Kd.R_alloc | apply Kd.R_drewN | apply Kd.R_drew)); exact Kd.R_mono HO295.out (fun _ hk => trivial)⟩, ⟨by (with_reducible repeat (first | apply Kd.R_alloc | apply Kd.R_drewN | apply Kd.R_drew)); exact Kd.R_mono HO300.out (fun _ hk => hk.2)⟩, ⟨by repeat (first | (with_reducible first | exact HB.out | apply bE | apply bD | apply bF) | exact HB.out)⟩⟩
   ·replace c15 := Bool.eq_false_iff.mpr c15
    subst c15
    have H1 : (laws_FnExactSplitMsgs.j0 k l0 t288 t289 t290 t293 t296 t297 t298 true) = some r := by rw [if_neg (show ¬ (false = true) by decide)] at H; exact H
    clear H
    have H := H1
    clear H1
    have H' := zM H
    clear H
    obtain ⟨Ao23, co23, eo23⟩ := Kd.R_slice HO300.out
    subst eo23
    obtain ⟨Ao24, co24, eo24⟩ := Kd.R_slice HO292.out
    subst eo24
    go_wp2_with (first | ((with_reducible refine gate_callee (f := 29) rfl ?_); refine goesL_ (some 36) rfl rfl Try.func29 (by kernel_rfl) rfl #[.slice Ao23 t296.length co23, .slice Ao24 t288.length co24] rfl (by (try simp only [List.map_toArray, List.map_cons, List.map_nil]); first | done | rfl) ?_; (with_reducible refine (laws_eqMsgS.calls k _ _ t296 _ _ t288 false _ ?side1 ?side2 ?side3 ?side4 A14.out).mono ?_); (case side1 => repeat (first | exact (Kd.R_reads' HO300.out).2.2 | (with_reducible refine Kd.C_alloc ?_ _) | (with_reducible refine Kd.C_drewN ?_ _) | (with_reducible refine Kd.C_drew ?_))); (case side2 => exact (Kd.R_reads' HO300.out).2.1); (case side3 => repeat (first | exact (Kd.R_reads' HO292.out).2.2 | (with_reducible refine Kd.C_alloc ?_ _) | (with_reducible refine Kd.C_drewN ?_ _) | (with_reducible refine Kd.C_drew ?_))); (case side4 => exact (Kd.R_reads' HO292.out).2.1); rintro e w25 ⟨rfl, hb⟩; refine ⟨_, rfl, ?_⟩; have n0_ := zM (Kd.R_below (by (with_reducible repeat (first | apply Kd.R_alloc | apply Kd.R_drewN | apply Kd.R_drew)); exact HO287.out) hb); have n1_ := zM (Kd.R_below (by (with_reducible repeat (first | apply Kd.R_alloc | apply Kd.R_drewN | apply Kd.R_drew)); exact HO292.out) hb); have n2_ := zM (Kd.R_below (by (with_reducible repeat (first | apply Kd.R_alloc | apply Kd.R_drewN | apply Kd.R_drew)); exact HO295.out) hb); have n3_ := zM (Kd.R_below (by (with_reducible repeat (first | apply Kd.R_alloc | apply Kd.R_drewN | apply Kd.R_drew)); exact HO300.out) hb); have n4_ := zM (bG (by repeat (first | (with_reducible first | exact HB.out | apply bE | apply bD | apply bF) | exact HB.out)) hb); clear HO287; clear HO292; clear HO295; clear HO300; clear HB; have HO287 := n0_; have HO292 := n1_; have HO295 := n2_; have HO300 := n3_; have HB := n4_; clear n0_ n1_ n2_ n3_ n4_; (try clear hb); (try clear hk); (try clear hi)))
    go_meet
    case rel => exact ⟨_, (true), (by first | rfl | (simp; done) | (simp [*]; done)), H', ⟨by first | omega | exact Nat.le_refl _⟩, ⟨by (with_reducible repeat (first | apply Kd.R_alloc | apply Kd.R_drewN | apply Kd.R_drew)); exact Kd.R_mono HO292.out (fun _ hk => hk.2)⟩, ⟨by (with_reducible repeat (first | apply Kd.R_alloc | apply Kd.R_drewN | apply Kd.R_drew)); exact Kd.R_mono HO295.out (fun _ hk => trivial)⟩, ⟨by (with_reducible repeat (first | apply Kd.R_alloc | apply Kd.R_drewN | apply Kd.R_drew)); exact Kd.R_mono HO300.out (fun _ hk => hk.2)⟩, ⟨by repeat (first | (with_reducible first | exact HB.out | apply bE | apply bD | apply bF) | exact HB.out)⟩⟩
  case rest =>
   clear HC7
   try clear c1
   try clear c2
   try clear c2b0
   try clear c2b1
   try clear p2
   try clear c3
   try clear c7
   try clear c15
   try clear c16
   try clear c16b0
   try clear c16b1
   try clear c18
   obtain ⟨kq, x47_6, rfl, HA, HJ6, HO_3, HO_6, HO_7, HB⟩ := hcut
   cases kq with
   | zero => exact absurd HA.out (by simp [laws_FnExactSplitMsgs.j0])
   | succ kj6 =>
    have H := HA.out
    clear HA
    simp only [laws_FnExactSplitMsgs.j0] at H
    by_cases c26 : x47_6 = true
    ·subst c26
     have H1 : (some false) = some r := by rw [if_pos rfl] at H; exact H
     clear H
     have H := H1
     clear H1
     obtain rfl := Option.some.inj H
     exact absurd HR.out (by decide)
    ·replace c26 := Bool.eq_false_iff.mpr c26
     subst c26
     have H1 : ((laws_toByteS.f kj6 l0).bind fun t302 => ((laws_eqByteS.f kj6 t293 t302).bind fun t305 => (if t305 = true then ((laws_markByteS.f kj6 t293 1).bind fun bt306 => (if bt306.1 < 0 then (laws_FnExactSplitMsgs.j1 kj6 l0 t288 t289 t290 t296 true) else ((laws_eqMsgS.f kj6 t296 t288).bind fun t308 => (if t308 = true then (if t297 = t289 then (laws_FnExactSplitMsgs.j1 kj6 l0 t288 t289 t290 t296 (t298 != t290)) else (laws_FnExactSplitMsgs.j1 kj6 l0 t288 t289 t290 t296 true)) else (laws_FnExactSplitMsgs.j1 kj6 l0 t288 t289 t290 t296 true))))) else (some false)))) = some r := by rw [if_neg (show ¬ (false = true) by decide)] at H; exact H
     clear H
     have H := H1
     clear H1
     replace H := zO H
     obtain ⟨t302, A270, H⟩ := H
     replace H : ((laws_eqByteS.f kj6 t293 t302).bind fun t305 => (if t305 = true then ((laws_markByteS.f kj6 t293 1).bind fun bt306 => (if bt306.1 < 0 then (laws_FnExactSplitMsgs.j1 kj6 l0 t288 t289 t290 t296 true) else ((laws_eqMsgS.f kj6 t296 t288).bind fun t308 => (if t308 = true then (if t297 = t289 then (laws_FnExactSplitMsgs.j1 kj6 l0 t288 t289 t290 t296 (t298 != t290)) else (laws_FnExactSplitMsgs.j1 kj6 l0 t288 t289 t290 t296 true)) else (laws_FnExactSplitMsgs.j1 kj6 l0 t288 t289 t290 t296 true))))) else (some false))) = some r := H
     have A27 := zM A270
     clear A270
     replace H := zO H
     obtain ⟨t305, A280, H⟩ := H
     replace H : (if t305 = true then ((laws_markByteS.f kj6 t293 1).bind fun bt306 => (if bt306.1 < 0 then (laws_FnExactSplitMsgs.j1 kj6 l0 t288 t289 t290 t296 true) else ((laws_eqMsgS.f kj6 t296 t288).bind fun t308 => (if t308 = true then (if t297 = t289 then (laws_FnExactSplitMsgs.j1 kj6 l0 t288 t289 t290 t296 (t298 != t290)) else (laws_FnExactSplitMsgs.j1 kj6 l0 t288 t289 t290 t296 true)) else (laws_FnExactSplitMsgs.j1 kj6 l0 t288 t289 t290 t296 true))))) else (some false)) = some r := H
     have A28 := zM A280
     clear A280
     by_cases c29 : t305 = true
     ·subst c29
      have H1 : ((laws_markByteS.f kj6 t293 1).bind fun bt306 => (if bt306.1 < 0 then (laws_FnExactSplitMsgs.j1 kj6 l0 t288 t289 t290 t296 true) else ((laws_eqMsgS.f kj6 t296 t288).bind fun t308 => (if t308 = true then (if t297 = t289 then (laws_FnExactSplitMsgs.j1 kj6 l0 t288 t289 t290 t296 (t298 != t290)) else (laws_FnExactSplitMsgs.j1 kj6 l0 t288 t289 t290 t296 true)) else (laws_FnExactSplitMsgs.j1 kj6 l0 t288 t289 t290 t296 true))))) = some r := by rw [if_pos rfl] at H; exact H
      clear H
      have H := H1
      clear H1
      replace H := zO H
      obtain ⟨⟨t306, t307⟩, A300, H⟩ := H
      replace H : (if t306 < 0 then (laws_FnExactSplitMsgs.j1 kj6 l0 t288 t289 t290 t296 true) else ((laws_eqMsgS.f kj6 t296 t288).bind fun t308 => (if t308 = true then (if t297 = t289 then (laws_FnExactSplitMsgs.j1 kj6 l0 t288 t289 t290 t296 (t298 != t290)) else (laws_FnExactSplitMsgs.j1 kj6 l0 t288 t289 t290 t296 true)) else (laws_FnExactSplitMsgs.j1 kj6 l0 t288 t289 t290 t296 true)))) = some r := H
      have A30 := zM A300
      clear A300
      have HC31 := zM H
      clear H
      go_upto_region 12 with (first | ((with_reducible refine gate_callee (f := 18) rfl ?_); refine goesL_ (some 50) rfl rfl Try.func18 (by kernel_rfl) rfl #[.slice A0 l0.length c0] rfl (by (try simp only [List.map_toArray, List.map_cons, List.map_nil]); first | done | rfl) ?_; (with_reducible refine (laws_toByteS.calls kj6 _ _ l0 t302 _ ?side1 ?side2 A27.out).mono ?_); (case side1 => repeat (first | exact (Kd.C_below HR0.out HB.out) | (with_reducible refine Kd.C_alloc ?_ _) | (with_reducible refine Kd.C_drewN ?_ _) | (with_reducible refine Kd.C_drew ?_))); (case side2 => exact HC0.out); rintro e w32 ⟨v303, rfl, ho0, hb⟩; refine ⟨_, rfl, ?_⟩; have n0_ := zM (Kd.R_below (by (with_reducible repeat (first | apply Kd.R_alloc | apply Kd.R_drewN | apply Kd.R_drew)); exact HO_3.out) hb); have n1_ := zM (Kd.R_elder' (by (with_reducible repeat (first | apply Kd.R_alloc | apply Kd.R_drewN | apply Kd.R_drew)); exact HO_6.out) (Kd.R_base ho0) hb); have n2_ := zM (Kd.R_below (by (with_reducible repeat (first | apply Kd.R_alloc | apply Kd.R_drewN | apply Kd.R_drew)); exact HO_7.out) hb); have n3_ := zM (Kd.R_lower (Kd.R_new' ho0 (Kd.R_lt (by (with_reducible repeat (first | apply Kd.R_alloc | apply Kd.R_drewN | apply Kd.R_drew)); exact HO_6.out))) (below_size (by repeat (first | (with_reducible first | exact HB.out | apply bE | apply bD | apply bF) | exact HB.out)))); have n4_ := zM (bG (by repeat (first | (with_reducible first | exact HB.out | apply bE | apply bD | apply bF) | exact HB.out)) hb); clear HO_3; clear HO_6; clear HO_7; clear HB; have HO_3 := n0_; have HO_6 := n1_; have HO_7 := n2_; have HO304 := n3_; have HB := n4_; clear n0_ n1_ n2_ n3_ n4_; (try clear hb); (try clear hk); (try clear hi); (try clear ho0); obtain ⟨Ao33, co33, eo33⟩ := Kd.R_slice HO304.out; subst eo33) | ((with_reducible refine gate_callee (f := 14) rfl ?_); refine goesL_ (some 51) rfl rfl Try.func14 (by kernel_rfl) rfl #[.slice Ao12 t293.length co12, .slice Ao33 t302.length co33] rfl (by (try simp only [List.map_toArray, List.map_cons, List.map_nil]); first | done | rfl) ?_; (with_reducible refine (laws_eqByteS.calls kj6 _ _ t293 _ _ t302 true _ ?side1 ?side2 ?side3 ?side4 A28.out).mono ?_); (case side1 => repeat (first | exact (Kd.R_reads' HO_6.out).2.2 | (with_reducible refine Kd.C_alloc ?_ _) | (with_reducible refine Kd.C_drewN ?_ _) | (with_reducible refine Kd.C_drew ?_))); (case side2 => exact (Kd.R_reads' HO_6.out).2.1); (case side3 => repeat (first | exact (Kd.R_reads' HO304.out).2.2 | (with_reducible refine Kd.C_alloc ?_ _) | (with_reducible refine Kd.C_drewN ?_ _) | (with_reducible refine Kd.C_drew ?_))); (case side4 => exact (Kd.R_reads' HO304.out).2.1); rintro e w' ⟨rfl, ⟨nd, rfl⟩⟩; refine ⟨_, rfl, ?_⟩) | ((with_reducible refine gate_callee (f := 15) rfl ?_); refine goesL_ (some 55) rfl rfl Try.func15 (by kernel_rfl) rfl #[.slice Ao12 t293.length co12, .int .i64 1] rfl (by (try simp only [List.map_toArray, List.map_cons, List.map_nil]); first | done | rfl) ?_; (with_reducible refine (laws_markByteS.calls kj6 (fun k_ => some k_ = (.slice Ao12 t293.length co12 : Value).ownBlock) (.slice Ao12 t293.length co12) t293 1 t306 t307 w _ ?side1 ?side2 A30.out).mono ?_); (case side1 => repeat (first | (with_reducible first | exact HB.out | apply bE | apply bD | apply bF) | exact HB.out)); (case side2 => exact Kd.R_tight rfl HO_6.out); rintro e w34 ⟨rfl, hy0, hb, hkp⟩; refine ⟨_, rfl, ?_⟩; have n0_ := zM (Kd.R_mono (ok' := fun k_ => some k_ ≠ (v299 : Value).ownBlock) (Kd.R_keptB ((Kd.R_apart' HO_3.out (Kd.R_typed HO_6.out) (by decide))) hkp (fun k_ hk_ hs_ => (hk_.2) hs_)) (fun k_ hk_ => hk_.1.1)); have n1_ := zM (Kd.R_reok rfl hy0 (fun k_ e_ => HO_6.out.1 k_ e_)); have n2_ := zM (Kd.R_mono (ok' := fun k_ => some k_ ≠ (v291 : Value).ownBlock) (Kd.R_keptB ((Kd.R_apart' HO_7.out (Kd.R_typed HO_6.out) (by decide))) hkp (fun k_ hk_ hs_ => (hk_.2) hs_)) (fun k_ hk_ => hk_.1.1)); have n3_ := zM (Kd.R_mono (ok' := fun k_ => some k_ ≠ (.slice Ao12 t293.length co12 : Value).ownBlock) (Kd.R_keptB (HO304.out) hkp (fun k_ hk_ hs_ => (hk_.2) hs_)) (fun k_ hk_ => hk_.1.2)); have n4_ := zM (hb); clear HO_3; clear HO_6; clear HO_7; clear HO304; clear HB; have HO_3 := n0_; have HO_6 := n1_; have HO_7 := n2_; have HO304 := n3_; have HB := n4_; clear n0_ n1_ n2_ n3_ n4_; (try clear hb); (try clear hkp); (try clear hy0)))
      (try simp only [Act.put, zS, z0, z1])
      go_cut [73] (fun v73 wc => ∃ (kq : Nat) (x73_30 : Bool), v73 = .bool x73_30 ∧ Aside0 (laws_FnExactSplitMsgs.j1 kq l0 t288 t289 t290 t296 x73_30 = some r) ∧ Aside0 (kq ≤ kj6) ∧ Aside0 (Kd.R k32 32 wc w.heap.size (fun k_ => some k_ ≠ (v299 : Value).ownBlock) v291 t288) ∧ Aside0 (Kd.R k32 32 wc w.heap.size (fun k_ => some k_ ≠ (v291 : Value).ownBlock) v299 t296) ∧ Aside0 (Below w.heap.size w wc))
      case first =>
       have H := HC31.out
       clear HC31
       by_cases c35 : t306 < 0
       ·rw [if_pos c35] at H
        have c35b0 : decide (t306 < 0) = true := decide_eq_true c35
        clear c35
        (first | rw [c35b0] | (simp only [i64_w, i32_w]; rw [c35b0]) | skip)
        have H' := zM H
        clear H
        go_wp2
        go_meet
        case rel => exact ⟨_, (true), (by first | rfl | (simp; done) | (simp [*]; done)), H', ⟨by have := HJ6.out; first | omega | exact Nat.le_refl _⟩, ⟨by (with_reducible repeat (first | apply Kd.R_alloc | apply Kd.R_drewN | apply Kd.R_drew)); exact HO_3.out⟩, ⟨by (with_reducible repeat (first | apply Kd.R_alloc | apply Kd.R_drewN | apply Kd.R_drew)); exact HO_7.out⟩, ⟨by repeat (first | (with_reducible first | exact HB.out | apply bE | apply bD | apply bF) | exact HB.out)⟩⟩
       ·rw [if_neg c35] at H
        have c35b0 : decide (t306 < 0) = false := decide_eq_false c35
        clear c35
        (first | rw [c35b0] | (simp only [i64_w, i32_w]; rw [c35b0]) | skip)
        replace H := zO H
        obtain ⟨t308, A360, H⟩ := H
        replace H : (if t308 = true then (if t297 = t289 then (laws_FnExactSplitMsgs.j1 kj6 l0 t288 t289 t290 t296 (t298 != t290)) else (laws_FnExactSplitMsgs.j1 kj6 l0 t288 t289 t290 t296 true)) else (laws_FnExactSplitMsgs.j1 kj6 l0 t288 t289 t290 t296 true)) = some r := H
        have A36 := zM A360
        clear A360
        by_cases c37 : t308 = true
        ·subst c37
         have H1 : (if t297 = t289 then (laws_FnExactSplitMsgs.j1 kj6 l0 t288 t289 t290 t296 (t298 != t290)) else (laws_FnExactSplitMsgs.j1 kj6 l0 t288 t289 t290 t296 true)) = some r := by rw [if_pos rfl] at H; exact H
         clear H
         have H := H1
         clear H1
         by_cases c38 : t297 = t289
         ·rw [if_pos c38] at H
          have c38b0 : (t297 == t289) = true := beq_iff_eq.mpr c38
          have c38b1 : (t297 != t289) = false := bne_eq_false_iff_eq.mpr c38
          clear c38
          have H' := zM H
          clear H
          obtain ⟨Ao39, co39, eo39⟩ := Kd.R_slice HO_7.out
          subst eo39
          obtain ⟨Ao40, co40, eo40⟩ := Kd.R_slice HO_3.out
          subst eo40
          go_wp2_with (first | (go_at_call 29; (with_reducible refine (laws_eqMsgS.calls kj6 _ _ t296 _ _ t288 true _ ?side1 ?side2 ?side3 ?side4 A36.out).mono ?_); (case side1 => repeat (first | exact (Kd.R_reads' HO_7.out).2.2 | (with_reducible refine Kd.C_alloc ?_ _) | (with_reducible refine Kd.C_drewN ?_ _) | (with_reducible refine Kd.C_drew ?_))); (case side2 => exact (Kd.R_reads' HO_7.out).2.1); (case side3 => repeat (first | exact (Kd.R_reads' HO_3.out).2.2 | (with_reducible refine Kd.C_alloc ?_ _) | (with_reducible refine Kd.C_drewN ?_ _) | (with_reducible refine Kd.C_drew ?_))); (case side4 => exact (Kd.R_reads' HO_3.out).2.1); rintro e w41 ⟨rfl, hb⟩; have n0_ := zM (Kd.R_below (by (with_reducible repeat (first | apply Kd.R_alloc | apply Kd.R_drewN | apply Kd.R_drew)); exact HO_3.out) hb); have n1_ := zM (Kd.R_below (by (with_reducible repeat (first | apply Kd.R_alloc | apply Kd.R_drewN | apply Kd.R_drew)); exact HO_6.out) hb); have n2_ := zM (Kd.R_below (by (with_reducible repeat (first | apply Kd.R_alloc | apply Kd.R_drewN | apply Kd.R_drew)); exact HO_7.out) hb); have n3_ := zM (Kd.R_below (by (with_reducible repeat (first | apply Kd.R_alloc | apply Kd.R_drewN | apply Kd.R_drew)); exact HO304.out) hb); have n4_ := zM (bG (by repeat (first | (with_reducible first | exact HB.out | apply bE | apply bD | apply bF) | exact HB.out)) hb); clear HO_3; clear HO_6; clear HO_7; clear HO304; clear HB; have HO_3 := n0_; have HO_6 := n1_; have HO_7 := n2_; have HO304 := n3_; have HB := n4_; clear n0_ n1_ n2_ n3_ n4_; (try clear hb); (try clear hk); (try clear hi)))
          go_meet
          case rel => exact ⟨_, ((t298 != t290)), (by first | rfl | (simp; done) | (simp [*]; done)), H', ⟨by have := HJ6.out; first | omega | exact Nat.le_refl _⟩, ⟨by (with_reducible repeat (first | apply Kd.R_alloc | apply Kd.R_drewN | apply Kd.R_drew)); exact HO_3.out⟩, ⟨by (with_reducible repeat (first | apply Kd.R_alloc | apply Kd.R_drewN | apply Kd.R_drew)); exact HO_7.out⟩, ⟨by repeat (first | (with_reducible first | exact HB.out | apply bE | apply bD | apply bF) | exact HB.out)⟩⟩
         ·rw [if_neg c38] at H
          have c38b0 : (t297 == t289) = false := beq_eq_false_iff_ne.mpr c38
          have c38b1 : (t297 != t289) = true := bne_iff_ne.mpr c38
          have H' := zM H
          clear H
          obtain ⟨Ao42, co42, eo42⟩ := Kd.R_slice HO_7.out
          subst eo42
          obtain ⟨Ao43, co43, eo43⟩ := Kd.R_slice HO_3.out
          subst eo43
          go_wp2_with (first | (go_at_call 29; (with_reducible refine (laws_eqMsgS.calls kj6 _ _ t296 _ _ t288 true _ ?side1 ?side2 ?side3 ?side4 A36.out).mono ?_); (case side1 => repeat (first | exact (Kd.R_reads' HO_7.out).2.2 | (with_reducible refine Kd.C_alloc ?_ _) | (with_reducible refine Kd.C_drewN ?_ _) | (with_reducible refine Kd.C_drew ?_))); (case side2 => exact (Kd.R_reads' HO_7.out).2.1); (case side3 => repeat (first | exact (Kd.R_reads' HO_3.out).2.2 | (with_reducible refine Kd.C_alloc ?_ _) | (with_reducible refine Kd.C_drewN ?_ _) | (with_reducible refine Kd.C_drew ?_))); (case side4 => exact (Kd.R_reads' HO_3.out).2.1); rintro e w44 ⟨rfl, hb⟩; have n0_ := zM (Kd.R_below (by (with_reducible repeat (first | apply Kd.R_alloc | apply Kd.R_drewN | apply Kd.R_drew)); exact HO_3.out) hb); have n1_ := zM (Kd.R_below (by (with_reducible repeat (first | apply Kd.R_alloc | apply Kd.R_drewN | apply Kd.R_drew)); exact HO_6.out) hb); have n2_ := zM (Kd.R_below (by (with_reducible repeat (first | apply Kd.R_alloc | apply Kd.R_drewN | apply Kd.R_drew)); exact HO_7.out) hb); have n3_ := zM (Kd.R_below (by (with_reducible repeat (first | apply Kd.R_alloc | apply Kd.R_drewN | apply Kd.R_drew)); exact HO304.out) hb); have n4_ := zM (bG (by repeat (first | (with_reducible first | exact HB.out | apply bE | apply bD | apply bF) | exact HB.out)) hb); clear HO_3; clear HO_6; clear HO_7; clear HO304; clear HB; have HO_3 := n0_; have HO_6 := n1_; have HO_7 := n2_; have HO304 := n3_; have HB := n4_; clear n0_ n1_ n2_ n3_ n4_; (try clear hb); (try clear hk); (try clear hi)))
          go_meet
          case rel => exact ⟨_, (true), (by first | rfl | (simp; done) | (simp [*]; done)), H', ⟨by have := HJ6.out; first | omega | exact Nat.le_refl _⟩, ⟨by (with_reducible repeat (first | apply Kd.R_alloc | apply Kd.R_drewN | apply Kd.R_drew)); exact HO_3.out⟩, ⟨by (with_reducible repeat (first | apply Kd.R_alloc | apply Kd.R_drewN | apply Kd.R_drew)); exact HO_7.out⟩, ⟨by repeat (first | (with_reducible first | exact HB.out | apply bE | apply bD | apply bF) | exact HB.out)⟩⟩
        ·replace c37 := Bool.eq_false_iff.mpr c37
         subst c37
         have H1 : (laws_FnExactSplitMsgs.j1 kj6 l0 t288 t289 t290 t296 true) = some r := by rw [if_neg (show ¬ (false = true) by decide)] at H; exact H
         clear H
         have H := H1
         clear H1
         have H' := zM H
         clear H
         obtain ⟨Ao45, co45, eo45⟩ := Kd.R_slice HO_7.out
         subst eo45
         obtain ⟨Ao46, co46, eo46⟩ := Kd.R_slice HO_3.out
         subst eo46
         go_wp2_with (first | (go_at_call 29; (with_reducible refine (laws_eqMsgS.calls kj6 _ _ t296 _ _ t288 false _ ?side1 ?side2 ?side3 ?side4 A36.out).mono ?_); (case side1 => repeat (first | exact (Kd.R_reads' HO_7.out).2.2 | (with_reducible refine Kd.C_alloc ?_ _) | (with_reducible refine Kd.C_drewN ?_ _) | (with_reducible refine Kd.C_drew ?_))); (case side2 => exact (Kd.R_reads' HO_7.out).2.1); (case side3 => repeat (first | exact (Kd.R_reads' HO_3.out).2.2 | (with_reducible refine Kd.C_alloc ?_ _) | (with_reducible refine Kd.C_drewN ?_ _) | (with_reducible refine Kd.C_drew ?_))); (case side4 => exact (Kd.R_reads' HO_3.out).2.1); rintro e w47 ⟨rfl, hb⟩; have n0_ := zM (Kd.R_below (by (with_reducible repeat (first | apply Kd.R_alloc | apply Kd.R_drewN | apply Kd.R_drew)); exact HO_3.out) hb); have n1_ := zM (Kd.R_below (by (with_reducible repeat (first | apply Kd.R_alloc | apply Kd.R_drewN | apply Kd.R_drew)); exact HO_6.out) hb); have n2_ := zM (Kd.R_below (by (with_reducible repeat (first | apply Kd.R_alloc | apply Kd.R_drewN | apply Kd.R_drew)); exact HO_7.out) hb); have n3_ := zM (Kd.R_below (by (with_reducible repeat (first | apply Kd.R_alloc | apply Kd.R_drewN | apply Kd.R_drew)); exact HO304.out) hb); have n4_ := zM (bG (by repeat (first | (with_reducible first | exact HB.out | apply bE | apply bD | apply bF) | exact HB.out)) hb); clear HO_3; clear HO_6; clear HO_7; clear HO304; clear HB; have HO_3 := n0_; have HO_6 := n1_; have HO_7 := n2_; have HO304 := n3_; have HB := n4_; clear n0_ n1_ n2_ n3_ n4_; (try clear hb); (try clear hk); (try clear hi)))
         go_meet
         case rel => exact ⟨_, (true), (by first | rfl | (simp; done) | (simp [*]; done)), H', ⟨by have := HJ6.out; first | omega | exact Nat.le_refl _⟩, ⟨by (with_reducible repeat (first | apply Kd.R_alloc | apply Kd.R_drewN | apply Kd.R_drew)); exact HO_3.out⟩, ⟨by (with_reducible repeat (first | apply Kd.R_alloc | apply Kd.R_drewN | apply Kd.R_drew)); exact HO_7.out⟩, ⟨by repeat (first | (with_reducible first | exact HB.out | apply bE | apply bD | apply bF) | exact HB.out)⟩⟩
      case rest =>
       clear HC31
       try clear c1
       try clear c2
       try clear c2b0
       try clear c2b1
       try clear p2
       try clear c3
       try clear c7
       try clear c14
       try clear c15
       try clear c16
       try clear c16b0
       try clear c16b1
       try clear c18
       try clear c26
       try clear c29
       try clear c31
       try clear c32
       try clear c35
       try clear c35b0
       try clear c37
       try clear c38
       try clear c38b0
       try clear c38b1
       try clear p2
       obtain ⟨kq, x73_30, rfl, HA, HJ30, HO_3, HO_7, HB⟩ := hcut
       cases kq with
       | zero => exact absurd HA.out (by simp [laws_FnExactSplitMsgs.j1])
       | succ kj30 =>
        have H := HA.out
        clear HA
        simp only [laws_FnExactSplitMsgs.j1] at H
        by_cases c48 : x73_30 = true
        ·subst c48
         have H1 : (some false) = some r := by rw [if_pos rfl] at H; exact H
         clear H
         have H := H1
         clear H1
         obtain rfl := Option.some.inj H
         exact absurd HR.out (by decide)
        ·replace c48 := Bool.eq_false_iff.mpr c48
         subst c48
         have H1 : ((laws_markMsgS.f kj30 t296 1).bind fun bt309 => ((laws_heldMsgS.f kj30 bt309.2 1).bind fun t311 => (if t311 < 0 then (some false) else (if t311 = bt309.1 then ((laws_toByteS.f kj30 l0).bind fun t312 => ((impl_SplitMsgs.f kj30 t312).bind fun bt315 => ((laws_eqMsgS.f kj30 bt315.1 t288).bind fun t320 => (if t320 = true then (if bt315.2.1 = t289 then (laws_FnExactSplitMsgs.j2 kj30 bt309.2 bt309.1 (bt315.2.2 != t290)) else (laws_FnExactSplitMsgs.j2 kj30 bt309.2 bt309.1 true)) else (laws_FnExactSplitMsgs.j2 kj30 bt309.2 bt309.1 true))))) else (some false))))) = some r := by rw [if_neg (show ¬ (false = true) by decide)] at H; exact H
         clear H
         have H := H1
         clear H1
         replace H := zO H
         obtain ⟨⟨t309, t310⟩, A490, H⟩ := H
         replace H : ((laws_heldMsgS.f kj30 t310 1).bind fun t311 => (if t311 < 0 then (some false) else (if t311 = t309 then ((laws_toByteS.f kj30 l0).bind fun t312 => ((impl_SplitMsgs.f kj30 t312).bind fun bt315 => ((laws_eqMsgS.f kj30 bt315.1 t288).bind fun t320 => (if t320 = true then (if bt315.2.1 = t289 then (laws_FnExactSplitMsgs.j2 kj30 t310 t309 (bt315.2.2 != t290)) else (laws_FnExactSplitMsgs.j2 kj30 t310 t309 true)) else (laws_FnExactSplitMsgs.j2 kj30 t310 t309 true))))) else (some false)))) = some r := H
         have A49 := zM A490
         clear A490
         replace H := zO H
         obtain ⟨t311, A500, H⟩ := H
         replace H : (if t311 < 0 then (some false) else (if t311 = t309 then ((laws_toByteS.f kj30 l0).bind fun t312 => ((impl_SplitMsgs.f kj30 t312).bind fun bt315 => ((laws_eqMsgS.f kj30 bt315.1 t288).bind fun t320 => (if t320 = true then (if bt315.2.1 = t289 then (laws_FnExactSplitMsgs.j2 kj30 t310 t309 (bt315.2.2 != t290)) else (laws_FnExactSplitMsgs.j2 kj30 t310 t309 true)) else (laws_FnExactSplitMsgs.j2 kj30 t310 t309 true))))) else (some false))) = some r := H
         have A50 := zM A500
         clear A500
         by_cases c51 : t311 < 0
         ·rw [if_pos c51] at H
          have c51b0 : decide (t311 < 0) = true := decide_eq_true c51
          clear c51
          obtain rfl := Option.some.inj H
          exact absurd HR.out (by decide)
         ·rw [if_neg c51] at H
          have c51b0 : decide (t311 < 0) = false := decide_eq_false c51
          clear c51
          by_cases c52 : t311 = t309
          ·rw [if_pos c52] at H
           have c52b0 : (t311 == t309) = true := beq_iff_eq.mpr c52
           have c52b1 : (t311 != t309) = false := bne_eq_false_iff_eq.mpr c52
           clear c52
           replace H := zO H
           obtain ⟨t312, A530, H⟩ := H
           replace H : ((impl_SplitMsgs.f kj30 t312).bind fun bt315 => ((laws_eqMsgS.f kj30 bt315.1 t288).bind fun t320 => (if t320 = true then (if bt315.2.1 = t289 then (laws_FnExactSplitMsgs.j2 kj30 t310 t309 (bt315.2.2 != t290)) else (laws_FnExactSplitMsgs.j2 kj30 t310 t309 true)) else (laws_FnExactSplitMsgs.j2 kj30 t310 t309 true)))) = some r := H
           have A53 := zM A530
           clear A530
           replace H := zO H
           obtain ⟨⟨t315, t316, t317⟩, A540, H⟩ := H
           replace H : ((laws_eqMsgS.f kj30 t315 t288).bind fun t320 => (if t320 = true then (if t316 = t289 then (laws_FnExactSplitMsgs.j2 kj30 t310 t309 (t317 != t290)) else (laws_FnExactSplitMsgs.j2 kj30 t310 t309 true)) else (laws_FnExactSplitMsgs.j2 kj30 t310 t309 true))) = some r := H
           have A54 := zM A540
           clear A540
           have HC55 := zM H
           clear H
           obtain ⟨Ao56, co56, eo56⟩ := Kd.R_slice HO_7.out
           subst eo56
           go_upto_region 23 with (first | ((with_reducible refine gate_callee (f := 30) rfl ?_); refine goesL_ (some 76) rfl rfl Try.func30 (by kernel_rfl) rfl #[.slice Ao56 t296.length co56, .int .i64 1] rfl (by (try simp only [List.map_toArray, List.map_cons, List.map_nil]); first | done | rfl) ?_; (with_reducible refine (laws_markMsgS.calls kj30 (fun k_ => some k_ = (.slice Ao56 t296.length co56 : Value).ownBlock) (.slice Ao56 t296.length co56) t296 1 t309 t310 w _ ?side1 ?side2 A49.out).mono ?_); (case side1 => repeat (first | (with_reducible first | exact HB.out | apply bE | apply bD | apply bF) | exact HB.out)); (case side2 => exact Kd.R_tight rfl HO_7.out); rintro e w57 ⟨rfl, hy0, hb, hkp⟩; refine ⟨_, rfl, ?_⟩; have n0_ := zM (Kd.R_mono (ok' := fun k_ => some k_ ≠ (.slice Ao56 t296.length co56 : Value).ownBlock) (Kd.R_keptB (HO_3.out) hkp (fun k_ hk_ hs_ => (hk_) hs_)) (fun k_ hk_ => hk_.1)); have n1_ := zM (Kd.R_reok rfl hy0 (fun k_ e_ => HO_7.out.1 k_ e_)); have n2_ := zM (hb); clear HO_3; clear HO_7; clear HB; have HO_3 := n0_; have HO_7 := n1_; have HB := n2_; clear n0_ n1_ n2_; (try clear hb); (try clear hkp); (try clear hy0)) | ((with_reducible refine gate_callee (f := 33) rfl ?_); refine goesL_ (some 79) rfl rfl Try.func33 (by kernel_rfl) rfl #[.slice Ao56 t310.length co56, .int .i64 1] rfl (by (try simp only [List.map_toArray, List.map_cons, List.map_nil]); first | done | (rw [show t310.length = t296.length from (Kd.R_reads' HO_7.out).1.symm] <;> rfl) | rfl | (simp only [List.length_drop, List.length_take]; rfl)) ?_; (with_reducible refine (laws_heldMsgS.calls kj30 _ _ t310 1 t311 _ ?side1 ?side2 A50.out).mono ?_); (case side1 => repeat (first | exact (Kd.R_reads' HO_7.out).2.2 | (with_reducible refine Kd.C_alloc ?_ _) | (with_reducible refine Kd.C_drewN ?_ _) | (with_reducible refine Kd.C_drew ?_))); (case side2 => rw [show t310.length = t296.length from (Kd.R_reads' HO_7.out).1.symm]; exact (Kd.R_reads' HO_7.out).2.1); rintro e w58 ⟨rfl, hb⟩; refine ⟨_, rfl, ?_⟩; have n0_ := zM (Kd.R_below (by (with_reducible repeat (first | apply Kd.R_alloc | apply Kd.R_drewN | apply Kd.R_drew)); exact HO_3.out) hb); have n1_ := zM (Kd.R_below (by (with_reducible repeat (first | apply Kd.R_alloc | apply Kd.R_drewN | apply Kd.R_drew)); exact HO_7.out) hb); have n2_ := zM (bG (by repeat (first | (with_reducible first | exact HB.out | apply bE | apply bD | apply bF) | exact HB.out)) hb); clear HO_3; clear HO_7; clear HB; have HO_3 := n0_; have HO_7 := n1_; have HB := n2_; clear n0_ n1_ n2_; (try clear hb); (try clear hk); (try clear hi)) | ((with_reducible refine gate_callee (f := 18) rfl ?_); refine goesL_ (some 87) rfl rfl Try.func18 (by kernel_rfl) rfl #[.slice A0 l0.length c0] rfl (by (try simp only [List.map_toArray, List.map_cons, List.map_nil]); first | done | rfl) ?_; (with_reducible refine (laws_toByteS.calls kj30 _ _ l0 t312 _ ?side1 ?side2 A53.out).mono ?_); (case side1 => repeat (first | exact (Kd.C_below HR0.out HB.out) | (with_reducible refine Kd.C_alloc ?_ _) | (with_reducible refine Kd.C_drewN ?_ _) | (with_reducible refine Kd.C_drew ?_))); (case side2 => exact HC0.out); rintro e w59 ⟨v313, rfl, ho0, hb⟩; refine ⟨_, rfl, ?_⟩; have n0_ := zM (Kd.R_below (by (with_reducible repeat (first | apply Kd.R_alloc | apply Kd.R_drewN | apply Kd.R_drew)); exact HO_3.out) hb); have n1_ := zM (Kd.R_below (by (with_reducible repeat (first | apply Kd.R_alloc | apply Kd.R_drewN | apply Kd.R_drew)); exact HO_7.out) hb); have n2_ := zM (Kd.R_lower ho0 (below_size (by repeat (first | (with_reducible first | exact HB.out | apply bE | apply bD | apply bF) | exact HB.out)))); have n3_ := zM (bG (by repeat (first | (with_reducible first | exact HB.out | apply bE | apply bD | apply bF) | exact HB.out)) hb); clear HO_3; clear HO_7; clear HB; have HO_3 := n0_; have HO_7 := n1_; have HO314 := n2_; have HB := n3_; clear n0_ n1_ n2_ n3_; (try clear hb); (try clear hk); (try clear hi); (try clear ho0); obtain ⟨Ao60, co60, eo60⟩ := Kd.R_slice HO314.out; subst eo60) | ((with_reducible refine gate_callee (f := 32) rfl ?_); refine goesL_ (some 88) rfl rfl Try.func32 (by kernel_rfl) rfl #[.slice Ao60 t312.length co60] rfl (by (try simp only [List.map_toArray, List.map_cons, List.map_nil]); first | done | rfl) ?_; (with_reducible refine (impl_SplitMsgs.calls kj30 _ _ t312 t315 t316 t317 _ ?side1 ?side2 A54.out).mono ?_); (case side1 => repeat (first | exact (Kd.R_reads' HO314.out).2.2 | (with_reducible refine Kd.C_alloc ?_ _) | (with_reducible refine Kd.C_drewN ?_ _) | (with_reducible refine Kd.C_drew ?_))); (case side2 => exact (Kd.R_reads' HO314.out).2.1); rintro e w61 ⟨v318, rfl, ho0, hb⟩; refine ⟨_, rfl, ?_⟩; have n0_ := zM (Kd.R_elder' (by (with_reducible repeat (first | apply Kd.R_alloc | apply Kd.R_drewN | apply Kd.R_drew)); exact HO_3.out) (Kd.R_base ho0) hb); have n1_ := zM (Kd.R_elder' (by (with_reducible repeat (first | apply Kd.R_alloc | apply Kd.R_drewN | apply Kd.R_drew)); exact HO_7.out) (Kd.R_base ho0) hb); have n2_ := zM (Kd.R_below (by (with_reducible repeat (first | apply Kd.R_alloc | apply Kd.R_drewN | apply Kd.R_drew)); exact HO314.out) hb); have n3_ := zM (Kd.R_lower (Kd.R_new' (Kd.R_new' ho0 (Kd.R_lt (by (with_reducible repeat (first | apply Kd.R_alloc | apply Kd.R_drewN | apply Kd.R_drew)); exact HO_3.out))) (Kd.R_lt (by (with_reducible repeat (first | apply Kd.R_alloc | apply Kd.R_drewN | apply Kd.R_drew)); exact HO_7.out))) (below_size (by repeat (first | (with_reducible first | exact HB.out | apply bE | apply bD | apply bF) | exact HB.out)))); have n4_ := zM (bG (by repeat (first | (with_reducible first | exact HB.out | apply bE | apply bD | apply bF) | exact HB.out)) hb); clear HO_3; clear HO_7; clear HO314; clear HB; have HO_3 := n0_; have HO_7 := n1_; have HO314 := n2_; have HO319 := n3_; have HB := n4_; clear n0_ n1_ n2_ n3_ n4_; (try clear hb); (try clear hk); (try clear hi); (try clear ho0)))
           (try simp only [Act.put, zS, z0, z1])
           go_cut [105] (fun v105 wc => ∃ (kq : Nat) (x105_54 : Bool), v105 = .bool x105_54 ∧ Aside0 (laws_FnExactSplitMsgs.j2 kq t310 t309 x105_54 = some r) ∧ Aside0 (kq ≤ kj30) ∧ Aside0 (Kd.R k32 32 wc w.heap.size (fun _ => True) (.slice Ao56 t296.length co56) t310) ∧ Aside0 (Below w.heap.size w wc))
           case first =>
            have H := HC55.out
            clear HC55
            replace H := zO H
            obtain ⟨t320, A620, H⟩ := H
            replace H : (if t320 = true then (if t316 = t289 then (laws_FnExactSplitMsgs.j2 kj30 t310 t309 (t317 != t290)) else (laws_FnExactSplitMsgs.j2 kj30 t310 t309 true)) else (laws_FnExactSplitMsgs.j2 kj30 t310 t309 true)) = some r := H
            have A62 := zM A620
            clear A620
            by_cases c63 : t320 = true
            ·subst c63
             have H1 : (if t316 = t289 then (laws_FnExactSplitMsgs.j2 kj30 t310 t309 (t317 != t290)) else (laws_FnExactSplitMsgs.j2 kj30 t310 t309 true)) = some r := by rw [if_pos rfl] at H; exact H
             clear H
             have H := H1
             clear H1
             by_cases c64 : t316 = t289
             ·rw [if_pos c64] at H
              have c64b0 : (t316 == t289) = true := beq_iff_eq.mpr c64
              have c64b1 : (t316 != t289) = false := bne_eq_false_iff_eq.mpr c64
              clear c64
              (first | rw [c64b0] | (simp only [i64_w, i32_w]; rw [c64b0]) | skip)
              have H' := zM H
              clear H
              obtain ⟨Ao65, co65, eo65⟩ := Kd.R_slice HO319.out
              subst eo65
              obtain ⟨Ao66, co66, eo66⟩ := Kd.R_slice HO_3.out
              subst eo66
              go_wp2_with (first | ((with_reducible refine gate_callee (f := 29) rfl ?_); refine goesL_ (some 94) rfl rfl Try.func29 (by kernel_rfl) rfl #[.slice Ao65 t315.length co65, .slice Ao66 t288.length co66] rfl (by (try simp only [List.map_toArray, List.map_cons, List.map_nil]); first | done | rfl) ?_; (with_reducible refine (laws_eqMsgS.calls kj30 _ _ t315 _ _ t288 true _ ?side1 ?side2 ?side3 ?side4 A62.out).mono ?_); (case side1 => repeat (first | exact (Kd.R_reads' HO319.out).2.2 | (with_reducible refine Kd.C_alloc ?_ _) | (with_reducible refine Kd.C_drewN ?_ _) | (with_reducible refine Kd.C_drew ?_))); (case side2 => exact (Kd.R_reads' HO319.out).2.1); (case side3 => repeat (first | exact (Kd.R_reads' HO_3.out).2.2 | (with_reducible refine Kd.C_alloc ?_ _) | (with_reducible refine Kd.C_drewN ?_ _) | (with_reducible refine Kd.C_drew ?_))); (case side4 => exact (Kd.R_reads' HO_3.out).2.1); rintro e w67 ⟨rfl, hb⟩; refine ⟨_, rfl, ?_⟩; have n0_ := zM (Kd.R_below (by (with_reducible repeat (first | apply Kd.R_alloc | apply Kd.R_drewN | apply Kd.R_drew)); exact HO_3.out) hb); have n1_ := zM (Kd.R_below (by (with_reducible repeat (first | apply Kd.R_alloc | apply Kd.R_drewN | apply Kd.R_drew)); exact HO_7.out) hb); have n2_ := zM (Kd.R_below (by (with_reducible repeat (first | apply Kd.R_alloc | apply Kd.R_drewN | apply Kd.R_drew)); exact HO314.out) hb); have n3_ := zM (Kd.R_below (by (with_reducible repeat (first | apply Kd.R_alloc | apply Kd.R_drewN | apply Kd.R_drew)); exact HO319.out) hb); have n4_ := zM (bG (by repeat (first | (with_reducible first | exact HB.out | apply bE | apply bD | apply bF) | exact HB.out)) hb); clear HO_3; clear HO_7; clear HO314; clear HO319; clear HB; have HO_3 := n0_; have HO_7 := n1_; have HO314 := n2_; have HO319 := n3_; have HB := n4_; clear n0_ n1_ n2_ n3_ n4_; (try clear hb); (try clear hk); (try clear hi)))
              go_meet
              case rel => exact ⟨_, ((t317 != t290)), (by first | rfl | (simp; done) | (simp [*]; done)), H', ⟨by have := HJ6.out; have := HJ30.out; first | omega | exact Nat.le_refl _⟩, ⟨by (with_reducible repeat (first | apply Kd.R_alloc | apply Kd.R_drewN | apply Kd.R_drew)); exact Kd.R_mono HO_7.out (fun _ hk => trivial)⟩, ⟨by repeat (first | (with_reducible first | exact HB.out | apply bE | apply bD | apply bF) | exact HB.out)⟩⟩
             ·rw [if_neg c64] at H
              have c64b0 : (t316 == t289) = false := beq_eq_false_iff_ne.mpr c64
              have c64b1 : (t316 != t289) = true := bne_iff_ne.mpr c64
              (first | rw [c64b0] | (simp only [i64_w, i32_w]; rw [c64b0]) | skip)
              have H' := zM H
              clear H
              obtain ⟨Ao68, co68, eo68⟩ := Kd.R_slice HO319.out
              subst eo68
              obtain ⟨Ao69, co69, eo69⟩ := Kd.R_slice HO_3.out
              subst eo69
              go_wp2_with (first | ((with_reducible refine gate_callee (f := 29) rfl ?_); refine goesL_ (some 94) rfl rfl Try.func29 (by kernel_rfl) rfl #[.slice Ao68 t315.length co68, .slice Ao69 t288.length co69] rfl (by (try simp only [List.map_toArray, List.map_cons, List.map_nil]); first | done | rfl) ?_; (with_reducible refine (laws_eqMsgS.calls kj30 _ _ t315 _ _ t288 true _ ?side1 ?side2 ?side3 ?side4 A62.out).mono ?_); (case side1 => repeat (first | exact (Kd.R_reads' HO319.out).2.2 | (with_reducible refine Kd.C_alloc ?_ _) | (with_reducible refine Kd.C_drewN ?_ _) | (with_reducible refine Kd.C_drew ?_))); (case side2 => exact (Kd.R_reads' HO319.out).2.1); (case side3 => repeat (first | exact (Kd.R_reads' HO_3.out).2.2 | (with_reducible refine Kd.C_alloc ?_ _) | (with_reducible refine Kd.C_drewN ?_ _) | (with_reducible refine Kd.C_drew ?_))); (case side4 => exact (Kd.R_reads' HO_3.out).2.1); rintro e w70 ⟨rfl, hb⟩; refine ⟨_, rfl, ?_⟩; have n0_ := zM (Kd.R_below (by (with_reducible repeat (first | apply Kd.R_alloc | apply Kd.R_drewN | apply Kd.R_drew)); exact HO_3.out) hb); have n1_ := zM (Kd.R_below (by (with_reducible repeat (first | apply Kd.R_alloc | apply Kd.R_drewN | apply Kd.R_drew)); exact HO_7.out) hb); have n2_ := zM (Kd.R_below (by (with_reducible repeat (first | apply Kd.R_alloc | apply Kd.R_drewN | apply Kd.R_drew)); exact HO314.out) hb); have n3_ := zM (Kd.R_below (by (with_reducible repeat (first | apply Kd.R_alloc | apply Kd.R_drewN | apply Kd.R_drew)); exact HO319.out) hb); have n4_ := zM (bG (by repeat (first | (with_reducible first | exact HB.out | apply bE | apply bD | apply bF) | exact HB.out)) hb); clear HO_3; clear HO_7; clear HO314; clear HO319; clear HB; have HO_3 := n0_; have HO_7 := n1_; have HO314 := n2_; have HO319 := n3_; have HB := n4_; clear n0_ n1_ n2_ n3_ n4_; (try clear hb); (try clear hk); (try clear hi)))
              go_meet
              case rel => exact ⟨_, (true), (by first | rfl | (simp; done) | (simp [*]; done)), H', ⟨by have := HJ6.out; have := HJ30.out; first | omega | exact Nat.le_refl _⟩, ⟨by (with_reducible repeat (first | apply Kd.R_alloc | apply Kd.R_drewN | apply Kd.R_drew)); exact Kd.R_mono HO_7.out (fun _ hk => trivial)⟩, ⟨by repeat (first | (with_reducible first | exact HB.out | apply bE | apply bD | apply bF) | exact HB.out)⟩⟩
            ·replace c63 := Bool.eq_false_iff.mpr c63
             subst c63
             have H1 : (laws_FnExactSplitMsgs.j2 kj30 t310 t309 true) = some r := by rw [if_neg (show ¬ (false = true) by decide)] at H; exact H
             clear H
             have H := H1
             clear H1
             have H' := zM H
             clear H
             obtain ⟨Ao71, co71, eo71⟩ := Kd.R_slice HO319.out
             subst eo71
             obtain ⟨Ao72, co72, eo72⟩ := Kd.R_slice HO_3.out
             subst eo72
             go_wp2_with (first | ((with_reducible refine gate_callee (f := 29) rfl ?_); refine goesL_ (some 94) rfl rfl Try.func29 (by kernel_rfl) rfl #[.slice Ao71 t315.length co71, .slice Ao72 t288.length co72] rfl (by (try simp only [List.map_toArray, List.map_cons, List.map_nil]); first | done | rfl) ?_; (with_reducible refine (laws_eqMsgS.calls kj30 _ _ t315 _ _ t288 false _ ?side1 ?side2 ?side3 ?side4 A62.out).mono ?_); (case side1 => repeat (first | exact (Kd.R_reads' HO319.out).2.2 | (with_reducible refine Kd.C_alloc ?_ _) | (with_reducible refine Kd.C_drewN ?_ _) | (with_reducible refine Kd.C_drew ?_))); (case side2 => exact (Kd.R_reads' HO319.out).2.1); (case side3 => repeat (first | exact (Kd.R_reads' HO_3.out).2.2 | (with_reducible refine Kd.C_alloc ?_ _) | (with_reducible refine Kd.C_drewN ?_ _) | (with_reducible refine Kd.C_drew ?_))); (case side4 => exact (Kd.R_reads' HO_3.out).2.1); rintro e w73 ⟨rfl, hb⟩; refine ⟨_, rfl, ?_⟩; have n0_ := zM (Kd.R_below (by (with_reducible repeat (first | apply Kd.R_alloc | apply Kd.R_drewN | apply Kd.R_drew)); exact HO_3.out) hb); have n1_ := zM (Kd.R_below (by (with_reducible repeat (first | apply Kd.R_alloc | apply Kd.R_drewN | apply Kd.R_drew)); exact HO_7.out) hb); have n2_ := zM (Kd.R_below (by (with_reducible repeat (first | apply Kd.R_alloc | apply Kd.R_drewN | apply Kd.R_drew)); exact HO314.out) hb); have n3_ := zM (Kd.R_below (by (with_reducible repeat (first | apply Kd.R_alloc | apply Kd.R_drewN | apply Kd.R_drew)); exact HO319.out) hb); have n4_ := zM (bG (by repeat (first | (with_reducible first | exact HB.out | apply bE | apply bD | apply bF) | exact HB.out)) hb); clear HO_3; clear HO_7; clear HO314; clear HO319; clear HB; have HO_3 := n0_; have HO_7 := n1_; have HO314 := n2_; have HO319 := n3_; have HB := n4_; clear n0_ n1_ n2_ n3_ n4_; (try clear hb); (try clear hk); (try clear hi)))
             go_meet
             case rel => exact ⟨_, (true), (by first | rfl | (simp; done) | (simp [*]; done)), H', ⟨by have := HJ6.out; have := HJ30.out; first | omega | exact Nat.le_refl _⟩, ⟨by (with_reducible repeat (first | apply Kd.R_alloc | apply Kd.R_drewN | apply Kd.R_drew)); exact Kd.R_mono HO_7.out (fun _ hk => trivial)⟩, ⟨by repeat (first | (with_reducible first | exact HB.out | apply bE | apply bD | apply bF) | exact HB.out)⟩⟩
           case rest =>
            clear HC55
            try clear c1
            try clear c2
            try clear c2b0
            try clear c2b1
            try clear p2
            try clear c3
            try clear c4
            try clear c5
            try clear c6
            try clear c7
            try clear c14
            try clear c15
            try clear c16
            try clear c16b0
            try clear c16b1
            try clear c18
            try clear c26
            try clear c29
            try clear c30
            try clear c31
            try clear c32
            try clear c33
            try clear c35
            try clear c35b0
            try clear c37
            try clear c38
            try clear c38b0
            try clear c38b1
            try clear c48
            try clear c51
            try clear c51b0
            try clear c52
            try clear c52b0
            try clear c52b1
            try clear c63
            try clear c64
            try clear c64b0
            try clear c64b1
            try clear p2
            obtain ⟨kq, x105_54, rfl, HA, HJ54, HO_7, HB⟩ := hcut
            have hl7_54 := (Kd.R_reads' HO_7.out).1
            rw [hl7_54] at HO_7
            (try simp only [hl7_54])
            cases kq with
            | zero => exact absurd HA.out (by simp [laws_FnExactSplitMsgs.j2])
            | succ kj54 =>
             have H := HA.out
             clear HA
             simp only [laws_FnExactSplitMsgs.j2] at H
             by_cases c74 : x105_54 = true
             ·subst c74
              have H1 : (some false) = some r := by rw [if_pos rfl] at H; exact H
              clear H
              have H := H1
              clear H1
              obtain rfl := Option.some.inj H
              exact absurd HR.out (by decide)
             ·replace c74 := Bool.eq_false_iff.mpr c74
              subst c74
              have H1 : ((laws_heldMsgS.f kj54 t310 1).bind fun t321 => (if t321 < 0 then (some false) else (if t321 = t309 then (some true) else (some false)))) = some r := by rw [if_neg (show ¬ (false = true) by decide)] at H; exact H
              clear H
              have H := H1
              clear H1
              replace H := zO H
              obtain ⟨t321, A750, H⟩ := H
              replace H : (if t321 < 0 then (some false) else (if t321 = t309 then (some true) else (some false))) = some r := H
              have A75 := zM A750
              clear A750
              by_cases c76 : t321 < 0
              ·rw [if_pos c76] at H
               have c76b0 : decide (t321 < 0) = true := decide_eq_true c76
               clear c76
               obtain rfl := Option.some.inj H
               exact absurd HR.out (by decide)
              ·rw [if_neg c76] at H
               have c76b0 : decide (t321 < 0) = false := decide_eq_false c76
               clear c76
               by_cases c77 : t321 = t309
               ·rw [if_pos c77] at H
                have c77b0 : (t321 == t309) = true := beq_iff_eq.mpr c77
                have c77b1 : (t321 != t309) = false := bne_eq_false_iff_eq.mpr c77
                clear c77
                obtain rfl := Option.some.inj H
                simp only [zI, zJ] at H
                obtain ⟨rfl⟩ := H
                go_wp2_with (first | ((with_reducible refine gate_callee (f := 33) rfl ?_); refine goesL_ (some 108) rfl rfl Try.func33 (by kernel_rfl) rfl #[.slice Ao56 t310.length co56, .int .i64 1] rfl (by (try simp only [List.map_toArray, List.map_cons, List.map_nil]); first | done | rfl) ?_; (with_reducible refine (laws_heldMsgS.calls kj54 _ _ t310 1 t321 _ ?side1 ?side2 A75.out).mono ?_); (case side1 => repeat (first | exact (Kd.R_reads' HO_7.out).2.2 | (with_reducible refine Kd.C_alloc ?_ _) | (with_reducible refine Kd.C_drewN ?_ _) | (with_reducible refine Kd.C_drew ?_))); (case side2 => exact (Kd.R_reads' HO_7.out).2.1); rintro e w78 ⟨rfl, hb⟩; refine ⟨_, rfl, ?_⟩; have n0_ := zM (Kd.R_below (by (with_reducible repeat (first | apply Kd.R_alloc | apply Kd.R_drewN | apply Kd.R_drew)); exact HO_7.out) hb); have n1_ := zM (bG (by repeat (first | (with_reducible first | exact HB.out | apply bE | apply bD | apply bF) | exact HB.out)) hb); clear HO_7; clear HB; have HO_7 := n0_; have HB := n1_; clear n0_ n1_; (try clear hb); (try clear hk); (try clear hi)))
                go_ret
                exact ⟨by first | rfl | (simp [*, errW_none, errW_some] <;> rfl), by repeat (first | (with_reducible first | exact HB.out | apply bE | apply bD | apply bF) | exact HB.out)⟩
               ·rw [if_neg c77] at H
                have c77b0 : (t321 == t309) = false := beq_eq_false_iff_ne.mpr c77
                have c77b1 : (t321 != t309) = true := bne_iff_ne.mpr c77
                obtain rfl := Option.some.inj H
                exact absurd HR.out (by decide)
          ·rw [if_neg c52] at H
           have c52b0 : (t311 == t309) = false := beq_eq_false_iff_ne.mpr c52
           have c52b1 : (t311 != t309) = true := bne_iff_ne.mpr c52
           obtain rfl := Option.some.inj H
           exact absurd HR.out (by decide)
     ·replace c29 := Bool.eq_false_iff.mpr c29
      subst c29
      have H1 : (some false) = some r := by rw [if_neg (show ¬ (false = true) by decide)] at H; exact H
      clear H
      have H := H1
      clear H1
      obtain rfl := Option.some.inj H
      exact absurd HR.out (by decide)

/-- THE ONE PURE STATEMENT of laws_FnExactSplitMsgs: yours. -/
def laws_FnExactSplitMsgs.Pure : Prop := ∀ (l0 : List Int), l0.length ≤ maxLen → l0.length * 1 ≤ 140737488351232 → (∀ x ∈ l0, (Lit.int .u8 x).wf = true) → ∃ k, laws_FnExactSplitMsgs.f k l0 = some true
theorem laws_FnExactSplitMsgs.walk (P : laws_FnExactSplitMsgs.Pure) (a0 : Option Addr) (len0 cap0 : Nat) (z0 : List Int) (w : World) (w0 : (a0 = none ∧ len0 = 0 ∧ cap0 = 0 ∧ z0 = []) ∨ ∃ x, a0 = some x ∧ len0 ≤ cap0 ∧ cap0 ≤ maxLen ∧ z0.length = cap0 ∧ (∀ i, i < z0.length → w.cell? (x.add i) = some (.int .u8 (z0.getD i 0))) ∧ ∀ n ∈ z0, (Lit.int .u8 n).wf = true) (y0 : len0 * 1 ≤ 140737488351232) :
  Calls Try.prog 7 #[.slice a0 len0 cap0] w fun e w' => e = .returned (.bool true) ∧ Below w.heap.size w w' := by
 obtain ⟨l0, rfl, hr0, hm0, hw0, hc0⟩ := ReadsInt.ofRowC w0
 obtain ⟨k, h⟩ := P l0 hm0 y0 hw0
 refine (laws_FnExactSplitMsgs.calls k _ _ l0 true w (Kd.C_of_reads (d := (0 : Int)) (h1 := fun _ => rfl) hr0) hc0 (zM rfl) h).mono ?_
 rintro e w' ⟨rfl, hd⟩
 exact ⟨rfl, hd⟩

end Go.Proofs.Ytpnfbekbkeiahaa.XFnExactSplitMsgs
