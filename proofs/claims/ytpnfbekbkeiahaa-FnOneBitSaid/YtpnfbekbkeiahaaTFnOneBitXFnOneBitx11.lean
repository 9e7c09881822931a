-- Written by a program of this claim's session (wip/xprint.py), out of the translation.
import Derived.Test.YtpnfbekbkeiahaaTFnOneBitXFnOneBitx0
import Derived.Test.YtpnfbekbkeiahaaTFnOneBitXFnOneBitx5
import Derived.Test.YtpnfbekbkeiahaaTFnOneBitXFnOneBitx6
import Derived.Test.YtpnfbekbkeiahaaTFnOneBitXFnOneBitx7
import Derived.Test.YtpnfbekbkeiahaaTFnOneBitXFnOneBitx9
import Derived.Test.YtpnfbekbkeiahaaTFnOneBitXFnOneBitx10
namespace Go.Proofs.Ytpnfbekbkeiahaa.XFnOneBit
open Go.RowKit Go.Proofs.YtpnfbekbkeiahaaW.PrintWords Go.Proofs.YtpnfbekbkeiahaaW.PrintLast Go.Proofs.YtpnfbekbkeiahaaW.PrintMore
open Go.Proofs.YtpnfbekbkeiahaaW.PrintWords renaming blk_drewN → bA, blk_drew → bB, blk_alloc → bC, pw_below_drewN → bD, below_alloc → bE, below_drew1 → bF, Aside0.mk → zM, below_step → bG, blk_put → bH
open List renaming setIfInBounds_toArray → zS, set_cons_zero → z0, set_cons_succ → z1
attribute [local go_sem] max2_int min2_int max_two min_two max_three min_three max_four min_four
set_option linter.unusedVariables false
set_option linter.unusedSimpArgs false
set_option maxHeartbeats 8000000
set_option maxRecDepth 100000

/-! ### laws_FnOneBit: function 5 -/
def laws_FnOneBit.j0 : Nat → List Int → List Int → Bool → Option (Bool)
 | 0, _, _, _ => none
 | k + 1, x0, x4, x29 => if x29 = true then (some false) else ((laws_at.f x0 1).bind fun t446 => (if (x4.length : Int) = 0 then (none) else (if 0 ≤ (Int.tmod (wrap64 (t446 * 7)) (x4.length : Int)) then (if (Int.tmod (wrap64 (t446 * 7)) (x4.length : Int)) < (x4.length : Int) then ((laws_at.f x0 2).bind fun t448 => (if 0 ≤ (Int.tmod t448 8) then ((impl_Unpack.f k (x4.set ((Int.tmod (wrap64 (t446 * 7)) (x4.length : Int)) : Int).toNat (Go.bits .xor .u8 (rd x4 (Int.tmod (wrap64 (t446 * 7)) (x4.length : Int))) (shl .u8 1 (Int.tmod t448 8))))).bind fun bt450 => (some (bt450.2.2.2.2.2.2.2.2 == 2))) else (none))) else (none)) else (none))))
def laws_FnOneBit.f (k : Nat) (l0 : List Int) : Option (Bool) := (laws_big.f l0).bind fun t431 => (if t431 = true then (some true) else ((spec_DrawPack.f k l0).bind fun bt432 => ((impl_Pack.f k bt432.1 bt432.2.1 bt432.2.2.1 bt432.2.2.2.1 bt432.2.2.2.2.1 bt432.2.2.2.2.2.1 bt432.2.2.2.2.2.2.1 bt432.2.2.2.2.2.2.2).bind fun bt441 => ((spec_MsgOk.f k bt432.1 bt432.2.1 bt432.2.2.1 bt432.2.2.2.1 bt432.2.2.2.2.1 bt432.2.2.2.2.2.1 bt432.2.2.2.2.2.2.1 bt432.2.2.2.2.2.2.2).bind fun t445 => (if t445 = true then (if bt441.2 = true then (laws_FnOneBit.j0 k l0 bt441.1 (decide ((bt441.1.length : Int) < 2))) else (laws_FnOneBit.j0 k l0 bt441.1 true)) else (some (!bt441.2)))))))
theorem laws_FnOneBit.mono_l : ∀ k, (∀ y0 y1 y2, LeO (laws_FnOneBit.j0 k y0 y1 y2) (laws_FnOneBit.j0 (k + 1) y0 y1 y2))
 | 0 => fun _ _ _ r h => by simp [laws_FnOneBit.j0] at h
 | k + 1 => by
  have ih0 := laws_FnOneBit.mono_l k
  ·intro y0 y1 y2
   unfold laws_FnOneBit.j0
   repeat' first
   | (with_reducible exact ih0 _ _ _)
   | (with_reducible exact impl_Pack.mono _ _ _ _ _ _ _ _ _)
   | (with_reducible exact impl_Unpack.mono _ _)
   | (with_reducible exact spec_DrawPack.mono _ _)
   | (with_reducible exact spec_MsgOk.mono _ _ _ _ _ _ _ _ _)
   | (with_reducible exact LeO.refl _)
   | (with_reducible exact LeO.none _)
   | (with_reducible refine LeO.ite ?_ ?_)
   | (with_reducible refine LeO.bind ?_ (fun _ => ?_))
   | exact ih0 _ _ _
   | exact impl_Pack.mono _ _ _ _ _ _ _ _ _
   | exact impl_Unpack.mono _ _
   | exact spec_DrawPack.mono _ _
   | exact spec_MsgOk.mono _ _ _ _ _ _ _ _ _
   | exact LeO.none _
   | refine LeO.ite ?_ ?_
   | refine LeO.bind ?_ (fun _ => ?_)
theorem laws_FnOneBit.mono : ∀ a0 k, LeO (laws_FnOneBit.f k a0) (laws_FnOneBit.f (k + 1) a0) := by
 intro a0 k
 have ih0 := laws_FnOneBit.mono_l k
 unfold laws_FnOneBit.f
 repeat' first
   | (with_reducible exact ih0 _ _ _)
   | (with_reducible exact impl_Pack.mono _ _ _ _ _ _ _ _ _)
   | (with_reducible exact impl_Unpack.mono _ _)
   | (with_reducible exact spec_DrawPack.mono _ _)
   | (with_reducible exact spec_MsgOk.mono _ _ _ _ _ _ _ _ _)
   | (with_reducible exact LeO.refl _)
   | (with_reducible exact LeO.none _)
   | (with_reducible refine LeO.ite ?_ ?_)
   | (with_reducible refine LeO.bind ?_ (fun _ => ?_))
   | exact ih0 _ _ _
   | exact impl_Pack.mono _ _ _ _ _ _ _ _ _
   | exact impl_Unpack.mono _ _
   | exact spec_DrawPack.mono _ _
   | exact spec_MsgOk.mono _ _ _ _ _ _ _ _ _
   | exact LeO.none _
   | refine LeO.ite ?_ ?_
   | refine LeO.bind ?_ (fun _ => ?_)
def laws_FnOneBit.T10 : Bool × List (List Nat × List Nat) := (true, [([], []), ([], []), ([], []), ([], []), ([2, 3], [2, 3]), ([4], [4]), ([], []), ([6], [6]), ([7], [7]), ([8], [8]), ([5, 9], [5, 9]), ([0, 1, 0, 1, 2, 3, 4, 5, 6, 7, 8, 9, 10], [0, 1]), ([11, 10, 7, 0, 1, 2, 3, 4, 5, 6, 7, 8, 9, 10], [10, 11])])
def laws_FnOneBit.B10 : List Nat := [0, 0, 0, 0, 12, 28, 0, 64, 192, 448, 1020, 2047, 4095]
theorem laws_FnOneBit.tab10 : rtab .any (opsOf Try.f5 10) = laws_FnOneBit.T10 := by kernel_rfl
theorem laws_FnOneBit.bits10 : waitsOk laws_FnOneBit.T10.2 laws_FnOneBit.B10 = true := by kernel_rfl
theorem laws_FnOneBit.calls (k : Nat) (A0 : Option Addr) (c0 : Nat) (l0 : List Int) (r : Bool) (w : World) (hr0 : Kd.C (Kd.int .u8) w A0 l0.length l0) (hc0 : l0.length ≤ c0) (HR : Aside0 (r = true)) (h : laws_FnOneBit.f k l0 = some r) :
  Calls Try.prog 5 #[.slice A0 l0.length c0] w fun e w' => e = .returned (.bool r) ∧ Below w.heap.size w w' := by
 have hu32 := Try.underlying32
 have HR0 := zM hr0
 have HC0 := zM hc0
 clear hr0 hc0
 have HB := zM (Below.refl w.heap.size w)
 have H : ((laws_big.f l0).bind fun t431 => (if t431 = true then (some true) else ((spec_DrawPack.f k l0).bind fun bt432 => ((impl_Pack.f k bt432.1 bt432.2.1 bt432.2.2.1 bt432.2.2.2.1 bt432.2.2.2.2.1 bt432.2.2.2.2.2.1 bt432.2.2.2.2.2.2.1 bt432.2.2.2.2.2.2.2).bind fun bt441 => ((spec_MsgOk.f k bt432.1 bt432.2.1 bt432.2.2.1 bt432.2.2.2.1 bt432.2.2.2.2.1 bt432.2.2.2.2.2.1 bt432.2.2.2.2.2.2.1 bt432.2.2.2.2.2.2.2).bind fun t445 => (if t445 = true then (if bt441.2 = true then (laws_FnOneBit.j0 k l0 bt441.1 (decide ((bt441.1.length : Int) < 2))) else (laws_FnOneBit.j0 k l0 bt441.1 true)) else (some (!bt441.2)))))))) = some r := h
 clear h
 replace H := zO H
 obtain ⟨t431, A20, H⟩ := H
 replace H : (if t431 = true then (some true) else ((spec_DrawPack.f k l0).bind fun bt432 => ((impl_Pack.f k bt432.1 bt432.2.1 bt432.2.2.1 bt432.2.2.2.1 bt432.2.2.2.2.1 bt432.2.2.2.2.2.1 bt432.2.2.2.2.2.2.1 bt432.2.2.2.2.2.2.2).bind fun bt441 => ((spec_MsgOk.f k bt432.1 bt432.2.1 bt432.2.2.1 bt432.2.2.2.1 bt432.2.2.2.2.1 bt432.2.2.2.2.2.1 bt432.2.2.2.2.2.2.1 bt432.2.2.2.2.2.2.2).bind fun t445 => (if t445 = true then (if bt441.2 = true then (laws_FnOneBit.j0 k l0 bt441.1 (decide ((bt441.1.length : Int) < 2))) else (laws_FnOneBit.j0 k l0 bt441.1 true)) else (some (!bt441.2))))))) = some r := H
 have A2 := zM A20
 clear A20
 by_cases c3 : t431 = true
 ·subst c3
  have H1 : (some true) = some r := by rw [if_pos rfl] at H; exact H
  clear H
  have H := H1
  clear H1
  obtain rfl := Option.some.inj H
  simp only [zI, zJ] at H
  obtain ⟨rfl⟩ := H
  go_enter Try.func5, Try.ntmps5
  go_wp2_with (first | ((with_reducible refine gate_callee (f := 21) rfl ?_); refine goesL_ (some 10) rfl rfl Try.func21 (by kernel_rfl) rfl #[.slice A0 l0.length c0] rfl (by (try simp only [List.map_toArray, List.map_cons, List.map_nil]); first | done | rfl) ?_; (with_reducible refine (laws_big.calls _ _ l0 true _ ?side1 ?side2 A2.out).mono ?_); (case side1 => repeat (first | exact HR0.out | (with_reducible refine Kd.C_alloc ?_ _) | (with_reducible refine Kd.C_drewN ?_ _) | (with_reducible refine Kd.C_drew ?_))); (case side2 => exact HC0.out); rintro e w' ⟨rfl, ⟨nd, rfl⟩⟩; refine ⟨_, rfl, ?_⟩))
  go_ret
  exact ⟨by first | rfl | (simp [*, errW_none, errW_some] <;> rfl), by repeat (first | (with_reducible first | exact HB.out | apply bE | apply bD | apply bF) | exact HB.out)⟩
 ·replace c3 := Bool.eq_false_iff.mpr c3
  subst c3
  have H1 : ((spec_DrawPack.f k l0).bind fun bt432 => ((impl_Pack.f k bt432.1 bt432.2.1 bt432.2.2.1 bt432.2.2.2.1 bt432.2.2.2.2.1 bt432.2.2.2.2.2.1 bt432.2.2.2.2.2.2.1 bt432.2.2.2.2.2.2.2).bind fun bt441 => ((spec_MsgOk.f k bt432.1 bt432.2.1 bt432.2.2.1 bt432.2.2.2.1 bt432.2.2.2.2.1 bt432.2.2.2.2.2.1 bt432.2.2.2.2.2.2.1 bt432.2.2.2.2.2.2.2).bind fun t445 => (if t445 = true then (if bt441.2 = true then (laws_FnOneBit.j0 k l0 bt441.1 (decide ((bt441.1.length : Int) < 2))) else (laws_FnOneBit.j0 k l0 bt441.1 true)) else (some (!bt441.2)))))) = some r := by rw [if_neg (show ¬ (false = true) by decide)] at H; exact H
  clear H
  have H := H1
  clear H1
  replace H := zO H
  obtain ⟨⟨t432, t433, t434, t435, t436, t437, t438, t439⟩, A40, H⟩ := H
  replace H : ((impl_Pack.f k t432 t433 t434 t435 t436 t437 t438 t439).bind fun bt441 => ((spec_MsgOk.f k t432 t433 t434 t435 t436 t437 t438 t439).bind fun t445 => (if t445 = true then (if bt441.2 = true then (laws_FnOneBit.j0 k l0 bt441.1 (decide ((bt441.1.length : Int) < 2))) else (laws_FnOneBit.j0 k l0 bt441.1 true)) else (some (!bt441.2))))) = some r := H
  have A4 := zM A40
  clear A40
  replace H := zO H
  obtain ⟨⟨t441, t444⟩, A50, H⟩ := H
  replace H : ((spec_MsgOk.f k t432 t433 t434 t435 t436 t437 t438 t439).bind fun t445 => (if t445 = true then (if t444 = true then (laws_FnOneBit.j0 k l0 t441 (decide ((t441.length : Int) < 2))) else (laws_FnOneBit.j0 k l0 t441 true)) else (some (!t444)))) = some r := H
  have A5 := zM A50
  clear A50
  replace H := zO H
  obtain ⟨t445, A60, H⟩ := H
  replace H : (if t445 = true then (if t444 = true then (laws_FnOneBit.j0 k l0 t441 (decide ((t441.length : Int) < 2))) else (laws_FnOneBit.j0 k l0 t441 true)) else (some (!t444))) = some r := H
  have A6 := zM A60
  clear A60
  by_cases c7 : t445 = true
  ·subst c7
   have H1 : (if t444 = true then (laws_FnOneBit.j0 k l0 t441 (decide ((t441.length : Int) < 2))) else (laws_FnOneBit.j0 k l0 t441 true)) = some r := by rw [if_pos rfl] at H; exact H
   clear H
   have H := H1
   clear H1
   have HC8 := zM H
   clear H
   go_enter Try.func5, Try.ntmps5
   go_upto_region 7 with (first | ((with_reducible refine gate_callee (f := 21) rfl ?_); refine goesL_ (some 10) rfl rfl Try.func21 (by kernel_rfl) rfl #[.slice A0 l0.length c0] rfl (by (try simp only [List.map_toArray, List.map_cons, List.map_nil]); first | done | rfl) ?_; (with_reducible refine (laws_big.calls _ _ l0 false _ ?side1 ?side2 A2.out).mono ?_); (case side1 => repeat (first | exact HR0.out | (with_reducible refine Kd.C_alloc ?_ _) | (with_reducible refine Kd.C_drewN ?_ _) | (with_reducible refine Kd.C_drew ?_))); (case side2 => exact HC0.out); rintro e w' ⟨rfl, ⟨nd, rfl⟩⟩; refine ⟨_, rfl, ?_⟩) | ((with_reducible refine gate_callee (f := 22) rfl ?_); refine goesL_ (some 12) rfl rfl Try.func22 (by kernel_rfl) rfl #[.slice A0 l0.length c0] rfl (by (try simp only [List.map_toArray, List.map_cons, List.map_nil]); first | done | rfl) ?_; (with_reducible refine (spec_DrawPack.calls k _ _ l0 t432 t433 t434 t435 t436 t437 t438 t439 _ ?side1 ?side2 A4.out).mono ?_); (case side1 => repeat (first | exact HR0.out | (with_reducible refine Kd.C_alloc ?_ _) | (with_reducible refine Kd.C_drewN ?_ _) | (with_reducible refine Kd.C_drew ?_))); (case side2 => exact HC0.out); rintro e w9 ⟨rfl, hb⟩; refine ⟨_, rfl, ?_⟩; have n0_ := zM (bG (by repeat (first | (with_reducible first | exact HB.out | apply bE | apply bD | apply bF) | exact HB.out)) hb); clear HB; have HB := n0_; clear n0_; (try clear hb); (try clear hk); (try clear hi)) | ((with_reducible refine gate_dst (N := 3) rfl ?_); (try (refine gate_guard (by rfl) ?_; dsimp only)); refine box_event ?hg (N := 3) ?hd (cs := #[.int .i64 0, .int .i64 0, .int .i64 0, .int .i64 0, .int .i64 0, .int .i64 0, .int .i64 0, .string (⟨#[]⟩ : ByteArray)]) (t := 32) ?hr ?_; (case hd => rfl); (case hg => rfl); (case hr => first | (go_simp; done) | (go_simp; rfl)); intro gb440 hg w10 hbox hb; have n0_ := zM (bG (by repeat (first | (with_reducible first | exact HB.out | apply bE | apply bD | apply bF) | exact HB.out)) hb); have n1_ := zM (hbox); have n2_ := zM ((by rw [hg]; exact (below_size (by repeat (first | (with_reducible first | exact HB.out | apply bE | apply bD | apply bF) | exact HB.out))) : w.heap.size ≤ gb440)); have n3_ := zM ((by rw [hg]; exact (below_size (by repeat (first | (with_reducible first | exact HB.out | apply bE | apply bD | apply bF) | exact HB.out))) : w.heap.size ≤ gb440)); clear HB; have HB := n0_; have BK440 := n1_; have GW440 := n2_; have GE440 := n3_; clear n0_ n1_ n2_ n3_; clear hb hbox hg; have hcz11_0 : w10.cell? ⟨gb440, 0, none⟩ = some (.int .i64 0) := (blk_cell BK440.out 0).trans rfl; have hcz11_1 : w10.cell? ⟨gb440, 1, none⟩ = some (.int .i64 0) := (blk_cell BK440.out 1).trans rfl; have hcz11_2 : w10.cell? ⟨gb440, 2, none⟩ = some (.int .i64 0) := (blk_cell BK440.out 2).trans rfl; have hcz11_3 : w10.cell? ⟨gb440, 3, none⟩ = some (.int .i64 0) := (blk_cell BK440.out 3).trans rfl; have hcz11_4 : w10.cell? ⟨gb440, 4, none⟩ = some (.int .i64 0) := (blk_cell BK440.out 4).trans rfl; have hcz11_5 : w10.cell? ⟨gb440, 5, none⟩ = some (.int .i64 0) := (blk_cell BK440.out 5).trans rfl; have hcz11_6 : w10.cell? ⟨gb440, 6, none⟩ = some (.int .i64 0) := (blk_cell BK440.out 6).trans rfl; have hcz11_7 : w10.cell? ⟨gb440, 7, none⟩ = some (.string (⟨#[]⟩ : ByteArray)) := (blk_cell BK440.out 7).trans rfl; have hfz11_0 := blk_frozen BK440.out 0; have hfz11_1 := blk_frozen BK440.out 1; have hfz11_2 := blk_frozen BK440.out 2; have hfz11_3 := blk_frozen BK440.out 3; have hfz11_4 := blk_frozen BK440.out 4; have hfz11_5 := blk_frozen BK440.out 5; have hfz11_6 := blk_frozen BK440.out 6; have hfz11_7 := blk_frozen BK440.out 7) | ((with_reducible refine gate_callee (f := 13) rfl ?_); refine goesL_ (some 15) rfl rfl Try.func13 (by kernel_rfl) rfl #[.agg #[.int .i64 t432, .int .i64 t433, .int .i64 t434, .int .i64 t435, .int .i64 t436, .int .i64 t437, .int .i64 t438, .string t439]] rfl (by (try simp only [List.map_toArray, List.map_cons, List.map_nil]); first | done | rfl) ?_; (with_reducible refine (impl_Pack.calls k t432 t433 t434 t435 t436 t437 t438 t439 t441 t444 _ A5.out).mono ?_); rintro e w12 ⟨v442, rfl, ho0, hb⟩; refine ⟨_, rfl, ?_⟩; have n0_ := zM (Kd.R_lower ho0 (below_size (by repeat (first | (with_reducible first | exact HB.out | apply bE | apply bD | apply bF | refine below_set ?_ GE440.out) | exact HB.out)))); have n1_ := zM (blk_below (g := gb440) (o := .cells #[.int .i64 t432, .int .i64 t433, .int .i64 t434, .int .i64 t435, .int .i64 t436, .int .i64 t437, .int .i64 t438, .string t439] 32 (0, 0)) (by (with_reducible repeat (first | refine bA ?_ _ | refine bB ?_ | refine bC ?_ _)); refine bH (cs := #[.int .i64 t432, .int .i64 t433, .int .i64 t434, .int .i64 t435, .int .i64 t436, .int .i64 t437, .int .i64 t438, .string (⟨#[]⟩ : ByteArray)]) ?_ 7 _ rfl; (with_reducible repeat (first | refine bA ?_ _ | refine bB ?_ | refine bC ?_ _)); refine bH (cs := #[.int .i64 t432, .int .i64 t433, .int .i64 t434, .int .i64 t435, .int .i64 t436, .int .i64 t437, .int .i64 0, .string (⟨#[]⟩ : ByteArray)]) ?_ 6 _ rfl; (with_reducible repeat (first | refine bA ?_ _ | refine bB ?_ | refine bC ?_ _)); refine bH (cs := #[.int .i64 t432, .int .i64 t433, .int .i64 t434, .int .i64 t435, .int .i64 t436, .int .i64 0, .int .i64 0, .string (⟨#[]⟩ : ByteArray)]) ?_ 5 _ rfl; (with_reducible repeat (first | refine bA ?_ _ | refine bB ?_ | refine bC ?_ _)); refine bH (cs := #[.int .i64 t432, .int .i64 t433, .int .i64 t434, .int .i64 t435, .int .i64 0, .int .i64 0, .int .i64 0, .string (⟨#[]⟩ : ByteArray)]) ?_ 4 _ rfl; (with_reducible repeat (first | refine bA ?_ _ | refine bB ?_ | refine bC ?_ _)); refine bH (cs := #[.int .i64 t432, .int .i64 t433, .int .i64 t434, .int .i64 0, .int .i64 0, .int .i64 0, .int .i64 0, .string (⟨#[]⟩ : ByteArray)]) ?_ 3 _ rfl; (with_reducible repeat (first | refine bA ?_ _ | refine bB ?_ | refine bC ?_ _)); refine bH (cs := #[.int .i64 t432, .int .i64 t433, .int .i64 0, .int .i64 0, .int .i64 0, .int .i64 0, .int .i64 0, .string (⟨#[]⟩ : ByteArray)]) ?_ 2 _ rfl; (with_reducible repeat (first | refine bA ?_ _ | refine bB ?_ | refine bC ?_ _)); refine bH (cs := #[.int .i64 t432, .int .i64 0, .int .i64 0, .int .i64 0, .int .i64 0, .int .i64 0, .int .i64 0, .string (⟨#[]⟩ : ByteArray)]) ?_ 1 _ rfl; (with_reducible repeat (first | refine bA ?_ _ | refine bB ?_ | refine bC ?_ _)); refine bH (cs := #[.int .i64 0, .int .i64 0, .int .i64 0, .int .i64 0, .int .i64 0, .int .i64 0, .int .i64 0, .string (⟨#[]⟩ : ByteArray)]) ?_ 0 _ rfl; (with_reducible repeat (first | refine bA ?_ _ | refine bB ?_ | refine bC ?_ _)); exact BK440.out) hb); have n2_ := zM (bG (by repeat (first | (with_reducible first | exact HB.out | apply bE | apply bD | apply bF | refine below_set ?_ GE440.out) | exact HB.out)) hb); clear BK440; clear HB; have HO443 := n0_; have BK440 := n1_; have HB := n2_; clear n0_ n1_ n2_; (try clear hb); (try clear hk); (try clear hi); (try clear ho0); have hcz13_0 : w12.cell? ⟨gb440, 0, none⟩ = some (.int .i64 t432) := (blk_cell BK440.out 0).trans rfl; have hcz13_1 : w12.cell? ⟨gb440, 1, none⟩ = some (.int .i64 t433) := (blk_cell BK440.out 1).trans rfl; have hcz13_2 : w12.cell? ⟨gb440, 2, none⟩ = some (.int .i64 t434) := (blk_cell BK440.out 2).trans rfl; have hcz13_3 : w12.cell? ⟨gb440, 3, none⟩ = some (.int .i64 t435) := (blk_cell BK440.out 3).trans rfl; have hcz13_4 : w12.cell? ⟨gb440, 4, none⟩ = some (.int .i64 t436) := (blk_cell BK440.out 4).trans rfl; have hcz13_5 : w12.cell? ⟨gb440, 5, none⟩ = some (.int .i64 t437) := (blk_cell BK440.out 5).trans rfl; have hcz13_6 : w12.cell? ⟨gb440, 6, none⟩ = some (.int .i64 t438) := (blk_cell BK440.out 6).trans rfl; have hcz13_7 : w12.cell? ⟨gb440, 7, none⟩ = some (.string t439) := (blk_cell BK440.out 7).trans rfl; have hfz13_0 := blk_frozen BK440.out 0; have hfz13_1 := blk_frozen BK440.out 1; have hfz13_2 := blk_frozen BK440.out 2; have hfz13_3 := blk_frozen BK440.out 3; have hfz13_4 := blk_frozen BK440.out 4; have hfz13_5 := blk_frozen BK440.out 5; have hfz13_6 := blk_frozen BK440.out 6; have hfz13_7 := blk_frozen BK440.out 7) | ((with_reducible refine gate_callee (f := 23) rfl ?_); refine goesL_ (some 19) rfl rfl Try.func23 (by kernel_rfl) rfl #[.agg #[.int .i64 t432, .int .i64 t433, .int .i64 t434, .int .i64 t435, .int .i64 t436, .int .i64 t437, .int .i64 t438, .string t439]] rfl (by (try simp only [List.map_toArray, List.map_cons, List.map_nil]); first | done | rfl) ?_; (with_reducible refine (spec_MsgOk.calls k t432 t433 t434 t435 t436 t437 t438 t439 true _ A6.out).mono ?_); rintro e w14 ⟨rfl, hb⟩; refine ⟨_, rfl, ?_⟩; have n0_ := zM (Kd.R_below (by (with_reducible repeat (first | apply Kd.R_alloc | apply Kd.R_drewN | apply Kd.R_drew)); exact HO443.out) hb); have n1_ := zM (blk_below (g := gb440) (o := .cells #[.int .i64 t432, .int .i64 t433, .int .i64 t434, .int .i64 t435, .int .i64 t436, .int .i64 t437, .int .i64 t438, .string t439] 32 (0, 0)) (by (with_reducible repeat (first | refine bA ?_ _ | refine bB ?_ | refine bC ?_ _)); exact BK440.out) hb); have n2_ := zM (bG (by repeat (first | (with_reducible first | exact HB.out | apply bE | apply bD | apply bF | refine below_set ?_ GE440.out) | exact HB.out)) hb); clear HO443; clear BK440; clear HB; have HO443 := n0_; have BK440 := n1_; have HB := n2_; clear n0_ n1_ n2_; (try clear hb); (try clear hk); (try clear hi)))
   (try simp only [Act.put, zS, z0, z1])
   go_cut [29] (fun v29 wc => ∃ (kq : Nat) (x29_7 : Bool), v29 = .bool x29_7 ∧ Aside0 (laws_FnOneBit.j0 kq l0 t441 x29_7 = some r) ∧ Aside0 (kq ≤ k) ∧ Aside0 (Kd.R (Kd.int .u8) 5 wc w.heap.size (fun _ => True) v442 t441) ∧ Aside0 (wc.heap[gb440]? = some (.cells #[.int .i64 t432, .int .i64 t433, .int .i64 t434, .int .i64 t435, .int .i64 t436, .int .i64 t437, .int .i64 t438, .string t439] 32 (0, 0))) ∧ Aside0 (Below w.heap.size w wc))
   case first =>
    have H := HC8.out
    clear HC8
    by_cases c15 : t444 = true
    ·subst c15
     have H1 : (laws_FnOneBit.j0 k l0 t441 (decide ((t441.length : Int) < 2))) = some r := by rw [if_pos rfl] at H; exact H
     clear H
     have H := H1
     clear H1
     have H' := zM H
     clear H
     obtain ⟨Ao16, co16, eo16⟩ := Kd.R_slice HO443.out
     subst eo16
     go_wp2
     go_meet
     case rel => exact ⟨_, (decide ((t441.length : Int) < 2)), (by first | rfl | (simp; done) | (simp [*]; done)), H', ⟨by first | omega | exact Nat.le_refl _⟩, ⟨by (with_reducible repeat (first | apply Kd.R_alloc | apply Kd.R_drewN | apply Kd.R_drew)); exact HO443.out⟩, ⟨by (with_reducible repeat (first | refine bA ?_ _ | refine bB ?_ | refine bC ?_ _)); exact BK440.out⟩, ⟨by repeat (first | (with_reducible first | exact HB.out | apply bE | apply bD | apply bF | refine below_set ?_ GE440.out) | exact HB.out)⟩⟩
    ·replace c15 := Bool.eq_false_iff.mpr c15
     subst c15
     have H1 : (laws_FnOneBit.j0 k l0 t441 true) = some r := by rw [if_neg (show ¬ (false = true) by decide)] at H; exact H
     clear H
     have H := H1
     clear H1
     have H' := zM H
     clear H
     go_wp2
     go_meet
     case rel => exact ⟨_, (true), (by first | rfl | (simp; done) | (simp [*]; done)), H', ⟨by first | omega | exact Nat.le_refl _⟩, ⟨by (with_reducible repeat (first | apply Kd.R_alloc | apply Kd.R_drewN | apply Kd.R_drew)); exact HO443.out⟩, ⟨by (with_reducible repeat (first | refine bA ?_ _ | refine bB ?_ | refine bC ?_ _)); exact BK440.out⟩, ⟨by repeat (first | (with_reducible first | exact HB.out | apply bE | apply bD | apply bF | refine below_set ?_ GE440.out) | exact HB.out)⟩⟩
   case rest =>
    clear HC8
    try clear c1
    try clear c2
    try clear p2
    try clear c3
    try clear c5
    try clear c7
    try clear c13
    try clear c15
    try clear hcz11_0
    try clear hcz11_1
    try clear hcz11_2
    try clear hcz11_3
    try clear hcz11_4
    try clear hcz11_5
    try clear hcz11_6
    try clear hcz11_7
    try clear hcz13_0
    try clear hcz13_1
    try clear hcz13_2
    try clear hcz13_3
    try clear hcz13_4
    try clear hcz13_5
    try clear hcz13_6
    try clear hcz13_7
    try clear hfz11_0
    try clear hfz11_1
    try clear hfz11_2
    try clear hfz11_3
    try clear hfz11_4
    try clear hfz11_5
    try clear hfz11_6
    try clear hfz11_7
    try clear hfz13_0
    try clear hfz13_1
    try clear hfz13_2
    try clear hfz13_3
    try clear hfz13_4
    try clear hfz13_5
    try clear hfz13_6
    try clear hfz13_7
    obtain ⟨kq, x29_7, rfl, HA, HJ7, HO_4, BK440, HB⟩ := hcut
    cases kq with
    | zero => exact absurd HA.out (by simp [laws_FnOneBit.j0])
    | succ kj7 =>
     have H := HA.out
     clear HA
     simp only [laws_FnOneBit.j0] at H
     by_cases c17 : x29_7 = true
     ·subst c17
      have H1 : (some false) = some r := by rw [if_pos rfl] at H; exact H
      clear H
      have H := H1
      clear H1
      obtain rfl := Option.some.inj H
      exact absurd HR.out (by decide)
     ·replace c17 := Bool.eq_false_iff.mpr c17
      subst c17
      have H1 : ((laws_at.f l0 1).bind fun t446 => (if (t441.length : Int) = 0 then (none) else (if 0 ≤ (Int.tmod (wrap64 (t446 * 7)) (t441.length : Int)) then (if (Int.tmod (wrap64 (t446 * 7)) (t441.length : Int)) < (t441.length : Int) then ((laws_at.f l0 2).bind fun t448 => (if 0 ≤ (Int.tmod t448 8) then ((impl_Unpack.f kj7 (t441.set ((Int.tmod (wrap64 (t446 * 7)) (t441.length : Int)) : Int).toNat (Go.bits .xor .u8 (rd t441 (Int.tmod (wrap64 (t446 * 7)) (t441.length : Int))) (shl .u8 1 (Int.tmod t448 8))))).bind fun bt450 => (some (bt450.2.2.2.2.2.2.2.2 == 2))) else (none))) else (none)) else (none)))) = some r := by rw [if_neg (show ¬ (false = true) by decide)] at H; exact H
      clear H
      have H := H1
      clear H1
      replace H := zO H
      obtain ⟨t446, A180, H⟩ := H
      replace H : (if (t441.length : Int) = 0 then (none) else (if 0 ≤ (Int.tmod (wrap64 (t446 * 7)) (t441.length : Int)) then (if (Int.tmod (wrap64 (t446 * 7)) (t441.length : Int)) < (t441.length : Int) then ((laws_at.f l0 2).bind fun t448 => (if 0 ≤ (Int.tmod t448 8) then ((impl_Unpack.f kj7 (t441.set ((Int.tmod (wrap64 (t446 * 7)) (t441.length : Int)) : Int).toNat (Go.bits .xor .u8 (rd t441 (Int.tmod (wrap64 (t446 * 7)) (t441.length : Int))) (shl .u8 1 (Int.tmod t448 8))))).bind fun bt450 => (some (bt450.2.2.2.2.2.2.2.2 == 2))) else (none))) else (none)) else (none))) = some r := H
      have A18 := zM A180
      clear A180
      by_cases c19 : (t441.length : Int) = 0
      ·rw [if_pos c19] at H
       exact absurd H (by simp)
      ·rw [if_neg c19] at H
       have c19b0 : ((t441.length : Int) == 0) = false := beq_eq_false_iff_ne.mpr c19
       have c19b1 : ((t441.length : Int) != 0) = true := bne_iff_ne.mpr c19
       have c19b2 : ¬ (t441 = []) := fun h_ => c19 (by rw [h_]; rfl)
       obtain ⟨ji20, hji20⟩ : ∃ j_ : Int, (Int.tmod (wrap64 (t446 * 7)) (t441.length : Int)) = j_ := ⟨_, rfl⟩
       replace H : (if 0 ≤ (ji20) then (if (ji20) < (t441.length : Int) then ((laws_at.f l0 2).bind fun t448 => (if 0 ≤ (Int.tmod t448 8) then ((impl_Unpack.f kj7 (t441.set ((ji20) : Int).toNat (Go.bits .xor .u8 (rd t441 (ji20)) (shl .u8 1 (Int.tmod t448 8))))).bind fun bt450 => (some (bt450.2.2.2.2.2.2.2.2 == 2))) else (none))) else (none)) else (none)) = some r := by first | (rw [hji20] at H; exact H) | (simp only [hji20] at H ⊢; exact H)
       (try rw [hji20] at A18)
       by_cases c21 : 0 ≤ (ji20)
       ·rw [if_pos c21] at H
        have c21b0 : decide (0 ≤ (ji20)) = true := decide_eq_true c21
        clear c21
        by_cases c22 : (ji20) < (t441.length : Int)
        ·rw [if_pos c22] at H
         have c22b0 : decide ((ji20) < (t441.length : Int)) = true := decide_eq_true c22
         clear c22
         replace H := zO H
         obtain ⟨t448, A230, H⟩ := H
         replace H : (if 0 ≤ (Int.tmod t448 8) then ((impl_Unpack.f kj7 (t441.set ((ji20) : Int).toNat (Go.bits .xor .u8 (rd t441 (ji20)) (shl .u8 1 (Int.tmod t448 8))))).bind fun bt450 => (some (bt450.2.2.2.2.2.2.2.2 == 2))) else (none)) = some r := H
         have A23 := zM A230
         clear A230
         obtain ⟨ji24, hji24⟩ : ∃ j_ : Int, (Int.tmod t448 8) = j_ := ⟨_, rfl⟩
         replace H : (if 0 ≤ (ji24) then ((impl_Unpack.f kj7 (t441.set ((ji20) : Int).toNat (Go.bits .xor .u8 (rd t441 (ji20)) (shl .u8 1 (ji24))))).bind fun bt450 => (some (bt450.2.2.2.2.2.2.2.2 == 2))) else (none)) = some r := by first | (rw [hji24] at H; exact H) | (simp only [hji24] at H ⊢; exact H)
         (try rw [hji24] at hji20)
         (try rw [hji24] at hji20w)
         (try rw [hji24] at A18)
         (try rw [hji24] at A23)
         by_cases c25 : 0 ≤ (ji24)
         ·rw [if_pos c25] at H
          have c25b0 := eq_true c25
          have c25b1 : decide (0 ≤ (ji24)) = true := decide_eq_true c25
          clear c25
          obtain ⟨ji26, hji26⟩ : ∃ j_ : Int, (shl .u8 1 (ji24)) = j_ := ⟨_, rfl⟩
          replace H : ((impl_Unpack.f kj7 (t441.set ((ji20) : Int).toNat (Go.bits .xor .u8 (rd t441 (ji20)) (ji26)))).bind fun bt450 => (some (bt450.2.2.2.2.2.2.2.2 == 2))) = some r := by first | (rw [hji26] at H; exact H) | (simp only [hji26] at H ⊢; exact H)
          (try rw [hji26] at hji20)
          (try rw [hji26] at hji24)
          (try rw [hji26] at hji20w)
          (try rw [hji26] at hji24w)
          (try rw [hji26] at A18)
          (try rw [hji26] at A23)
          have hji26_ : (IntKind.u8.wrap (1 * 2 ^ min (ji24).toNat 8)) = ji26 := hji26
          have hji26z : (ji24) ≤ 8 → (IntKind.u8.wrap (1 * 2 ^ (ji24).toNat)) = ji26 := shl_small hji26
          have hji26u : (IntKind.u8.wrap (2 ^ min (ji24).toNat 8)) = ji26 := by have h_ := hji26_; rw [Int.one_mul] at h_; exact h_
          have hji26v : (ji24) ≤ 8 → (IntKind.u8.wrap (2 ^ (ji24).toNat)) = ji26 := fun hle_ => by have h_ := hji26z hle_; rw [Int.one_mul] at h_; exact h_
          obtain ⟨y449, hy449⟩ : ∃ y_ : List Int, y_ = (t441.set ((ji20) : Int).toNat (Go.bits .xor .u8 (rd t441 (ji20)) (ji26))) := ⟨_, rfl⟩
          replace H : ((impl_Unpack.f kj7 y449).bind fun bt450 => (some (bt450.2.2.2.2.2.2.2.2 == 2))) = some r := by first | (rw [hy449]; with_reducible exact H) | (have H2_ := (Option.bind_some _ _).symm.trans H; rw [hy449]; with_reducible exact H2_) | (have H2_ := (Option.bind_some _ _).symm.trans H; with_reducible exact H2_) | with_reducible exact H | (rw [hy449]; exact H) | exact H
          have Ny449 := zM hy449
          clear hy449
          replace H := zO H
          obtain ⟨⟨t450, t451, t452, t453, t454, t455, t456, t457, t458⟩, A280, H⟩ := H
          replace H : (some (t458 == 2)) = some r := H
          have A28 := zM A280
          clear A280
          obtain rfl := Option.some.inj H
          simp only [zI, zJ] at H
          obtain ⟨rfl⟩ := H
          try go_wp2_with (first | ((with_reducible refine gate_callee (f := 24) rfl ?_); refine goesL_ (some 31) rfl rfl Try.func24 (by kernel_rfl) rfl #[.slice A0 l0.length c0, .int .i64 1] rfl (by (try simp only [List.map_toArray, List.map_cons, List.map_nil]); first | done | rfl) ?_; (with_reducible refine (laws_at.calls _ _ l0 1 t446 _ ?side1 ?side2 A18.out).mono ?_); (case side1 => repeat (first | exact (Kd.C_below HR0.out HB.out) | (with_reducible refine Kd.C_alloc ?_ _) | (with_reducible refine Kd.C_drewN ?_ _) | (with_reducible refine Kd.C_drew ?_))); (case side2 => exact HC0.out); rintro e w' ⟨rfl, ⟨nd, rfl⟩⟩; refine ⟨_, rfl, ?_⟩; (try (rw [drewN_self wc]; generalize hq_ : World.drewN wc _ = wc; have n0_ : Aside0 (Kd.R (Kd.int .u8) 5 wc w.heap.size (fun k_ => True) v442 t441) := ⟨by rw [← hq_]; exact (by (with_reducible repeat (first | apply Kd.R_alloc | apply Kd.R_drewN | apply Kd.R_drew)); exact HO_4.out)⟩; have n1_ : Aside0 (wc.heap[gb440]? = some (.cells #[.int .i64 t432, .int .i64 t433, .int .i64 t434, .int .i64 t435, .int .i64 t436, .int .i64 t437, .int .i64 t438, .string t439] 32 (0, 0))) := ⟨by rw [← hq_]; exact (by (with_reducible repeat (first | refine bA ?_ _ | refine bB ?_ | refine bC ?_ _)); exact BK440.out)⟩; have n2_ : Aside0 (Below w.heap.size w wc) := ⟨by rw [← hq_]; exact (by repeat (first | (with_reducible first | exact HB.out | apply bE | apply bD | apply bF | refine below_set ?_ GE440.out) | exact HB.out))⟩; clear HO_4 BK440 HB hq_; have HO_4 := n0_; have BK440 := n1_; have HB := n2_; clear n0_ n1_ n2_)); obtain ⟨Ao29, co29, eo29⟩ := Kd.R_slice HO_4.out; subst eo29))
          have n0_ := zM (Kd.R_drew HO_4.out)
          have n1_ := zM (bB BK440.out)
          have n2_ := zM (bF HB.out)
          clear HO_4
          clear BK440
          clear HB
          have HO_4 := n0_
          have BK440 := n1_
          have HB := n2_
          clear n0_ n1_ n2_
          have p447 : 0 ≤ ((ji20) : Int) := of_decide_eq_true (by first | (with_reducible assumption) | assumption)
          have q447 : (ji20) < (t441.length : Int) := of_decide_eq_true (by first | (with_reducible assumption) | assumption)
          obtain ⟨ad447, e447, hx447_0⟩ := Kd.at_int (Kd.R_reads' HO_4.out).2.2 (ji20) p447 q447
          cases e447
          replace p447 := eq_true p447
          replace q447 := eq_true q447
          refine start_ (n := 13) (S := fun w' => w'.cell? (ad447.add ((ji20)).toNat) = some (.int .u8 (rd t441 (ji20)))) (ds := [12]) #[false, false, false, false, false, false, false, false, false, false, false, false, false] (by kernel_rfl) rfl rfl (hx447_0) (fun hHeld => ?_); refine with_tabW laws_FnOneBit.tab10 laws_FnOneBit.bits10 (fun HT_ HW_ => ?_)
          generalize wc.drew = w30 at HO_4 BK440 HB hx447_0 hHeld ⊢
          refine pure_ (i := 0) (N := some 36) (v := ?_) (a' := ?_) #[true, false, false, false, false, false, false, false, false, false, false, false, false] rfl rfl (any_of HT_.out (by kernel_rfl)) (fun _ _ _ h => h) (Or.inl ⟨by rfl, ?_⟩) ?_ ?_
          rotate_left
          ·intro w'
           go_simp
           with_reducible rfl
          rotate_left
          ·simp only [Act.put, zS, z0, z1, i64_w, i32_w]
           rfl
          refine pure_ (i := 1) (N := some 37) (v := ?_) (a' := ?_) #[true, true, false, false, false, false, false, false, false, false, false, false, false] rfl rfl (any_of HT_.out (by kernel_rfl)) (fun _ _ _ h => h) (Or.inl ⟨by rfl, ?_⟩) ?_ ?_
          rotate_left
          ·intro w'
           go_simp
           with_reducible rfl
          rotate_left
          ·simp only [Act.put, zS, z0, z1, i64_w, i32_w]
           rfl
          refine pure_ (i := 2) (N := some 38) (v := ?_) (a' := ?_) #[true, true, true, false, false, false, false, false, false, false, false, false, false] rfl rfl (any_of HT_.out (by kernel_rfl)) (fun _ _ _ h => h) (Or.inl ⟨by rfl, ?_⟩) ?_ ?_
          rotate_left
          ·intro w'
           go_simp
           with_reducible rfl
          rotate_left
          ·simp only [Act.put, zS, z0, z1, i64_w, i32_w]
           rfl
          refine pure_ (i := 3) (N := some 39) (v := ?_) (a' := ?_) #[true, true, true, true, false, false, false, false, false, false, false, false, false] rfl rfl (any_of HT_.out (by kernel_rfl)) (fun _ _ _ h => h) (Or.inl ⟨by rfl, ?_⟩) ?_ ?_
          rotate_left
          ·intro w'
           go_simp
           with_reducible rfl
          rotate_left
          ·simp only [Act.put, zS, z0, z1, i64_w, i32_w]
           rfl
          refine pure_ (i := 4) (N := some 40) (v := ?_) (a' := ?_) #[true, true, true, true, true, false, false, false, false, false, false, false, false] rfl rfl (any_of HT_.out (by kernel_rfl)) (fun _ _ _ h => h) (Or.inl ⟨by rfl, ?_⟩) ?_ ?_
          rotate_left
          ·intro w'
           go_simp
           with_reducible rfl
          rotate_left
          ·simp only [Act.put, zS, z0, z1, i64_w, i32_w]
           rfl
          refine pure_ (i := 6) (N := some 42) (v := ?_) (a' := ?_) #[true, true, true, true, true, false, true, false, false, false, false, false, false] rfl rfl (any_of HT_.out (by kernel_rfl)) (fun _ _ _ h => h) (Or.inl ⟨by rfl, ?_⟩) ?_ ?_
          rotate_left
          ·intro w'
           go_simp
           with_reducible rfl
          rotate_left
          ·simp only [Act.put, zS, z0, z1, i64_w, i32_w]
           rfl
          refine take_ (i := 5) (N := some 41) (v := ?_) (a' := ?_) #[true, true, true, true, true, true, true, false, false, false, false, false, false] rfl rfl (take_ofW HT_.out HW_.out (by kernel_rfl)) (fun _ _ _ h => h) (Or.inl ⟨by rfl, ?_⟩) hHeld ?_ ?_
          rotate_left
          ·intro w' s0
           go_simp
           with_reducible rfl
          rotate_left
          ·simp only [Act.put, zS, z0, z1, i64_w, i32_w]
           rfl
          refine one_ (i := 7) (N := some 43) #[true, true, true, true, true, true, true, true, false, false, false, false, false] rfl rfl (one_of HT_.out (by kernel_rfl)) (by decide) (fun K hK => ?_)
          refine goes_ Try.func24 (by kernel_rfl) rfl #[.slice A0 l0.length c0, .int .i64 2] (by rfl) rfl rfl (by (try simp only [List.map_toArray, List.map_cons, List.map_nil]); first | done | rfl) ?_
          with_reducible refine (laws_at.calls _ _ l0 2 t448 _ ?side1 ?side2 A23.out).mono ?_
          (case side1 => repeat (first | exact (Kd.C_below HR0.out HB.out) | (with_reducible refine Kd.C_alloc ?_ _) | (with_reducible refine Kd.C_drewN ?_ _) | (with_reducible refine Kd.C_drew ?_)))
          (case side2 => exact HC0.out)
          rintro e w' ⟨rfl, ⟨nd, rfl⟩⟩
          refine ⟨_, rfl, ?_⟩
          have p27 : 0 ≤ ((ji20) : Int) := of_decide_eq_true (by first | (with_reducible assumption) | assumption)
          have q27 : ((ji20) : Int) < ((t441.length : Int) : Int) := of_decide_eq_true (by first | (with_reducible assumption) | assumption)
          obtain ⟨go27, co27, eo27, gb27, gl27, cl27, HG27⟩ := Kd.R_form HO_4.out (by omega)
          (first | cases eo27 | (injection eo27 with ea_ en_ ec_; (first | subst ea_ | (injection ea_ with ea_; subst ea_)); subst ec_; clear en_))
          have GB27 := zM gb27
          have GG27 := zM HG27
          clear gb27 gl27 HG27
          (first | simp only [add_plain] at hx447_0 | skip)
          obtain ⟨hx27_0, hf27_0⟩ := Kd.R_celln 0 HO_4.out ((ji20) : Int) p27 q27
          replace p27 := eq_true p27
          replace q27 := eq_true q27
          have HP31 := Kd.R_putn HO_4.out ((ji20) : Int) (Go.bits .xor .u8 (rd t441 (ji20)) (ji26))
          rw [← Ny449.out] at HP31
          have HQ31 := zM HP31
          clear HP31
          refine hK.out _ _ (hHeld) (fun hHeld => ?_)
          clear hK K
          refine norm_ (a' := ?_) ?_ ?_
          rotate_left
          ·show Act.put _ (some 43) _ = _
           simp only [Act.put, zS, z0, z1, i64_w, i32_w]
           rfl
          refine pure_ (i := 8) (N := some 44) (v := ?_) (a' := ?_) #[true, true, true, true, true, true, true, true, true, false, false, false, false] rfl rfl (any_of HT_.out (by kernel_rfl)) (fun _ _ _ h => h) (Or.inl ⟨by rfl, ?_⟩) ?_ ?_
          rotate_left
          ·intro w'
           go_simp
           with_reducible rfl
          rotate_left
          ·simp only [Act.put, zS, z0, z1, i64_w, i32_w]
           rfl
          refine pure_ (i := 9) (N := some 45) (v := ?_) (a' := ?_) #[true, true, true, true, true, true, true, true, true, true, false, false, false] rfl rfl (any_of HT_.out (by kernel_rfl)) (fun _ _ _ h => h) (Or.inl ⟨by rfl, ?_⟩) ?_ ?_
          rotate_left
          ·intro w'
           go_simp
           with_reducible rfl
          rotate_left
          ·simp only [Act.put, zS, z0, z1, i64_w, i32_w]
           rfl
          refine pure_ (i := 10) (N := some 46) (v := ?_) (a' := ?_) #[true, true, true, true, true, true, true, true, true, true, true, false, false] rfl rfl (any_of HT_.out (by kernel_rfl)) (fun _ _ _ h => h) (Or.inl ⟨by rfl, ?_⟩) ?_ ?_
          rotate_left
          ·intro w'
           go_simp
           with_reducible rfl
          rotate_left
          ·simp only [Act.put, zS, z0, z1, i64_w, i32_w]
           rfl
          refine pure_ (i := 11) (N := some 47) (v := ?_) (a' := ?_) #[true, true, true, true, true, true, true, true, true, true, true, true, false] rfl rfl (any_of HT_.out (by kernel_rfl)) (fun _ _ _ h => h) (Or.inl ⟨by rfl, ?_⟩) ?_ ?_
          rotate_left
          ·intro w'
           go_simp
           with_reducible rfl
          rotate_left
          ·simp only [Act.put, zS, z0, z1, i64_w, i32_w]
           rfl
          refine last_ (i := 12) (N := none) #[true, true, true, true, true, true, true, true, true, true, true, true, true] rfl rfl (one_of HT_.out (by kernel_rfl)) (by decide) (fun K hK => ?_)
          refine skip_ (w1 := ?_) (by rfl) rfl ?_ ?_
          rotate_left
          ·go_simp
           rfl
          refine hK.out _ _ ?_
          clear hK K
          refine done_ (done_of HT_.out (by kernel_rfl)) ?_
          have n0_ : Aside0 (Kd.R (Kd.int .u8) 5 (w30.setCell ⟨go27, ((ji20) : Int).toNat, none⟩ (.int .u8 (Go.bits .xor .u8 (rd t441 (ji20)) (ji26)))) w.heap.size (fun _ => True) (.slice (some ⟨go27, 0, none⟩) t441.length co29) y449) := ⟨by (with_reducible repeat (first | apply Kd.R_alloc | apply Kd.R_drewN | apply Kd.R_drew)); exact HQ31.out⟩
          have n1_ : Aside0 ((w30.setCell ⟨go27, ((ji20) : Int).toNat, none⟩ (.int .u8 (Go.bits .xor .u8 (rd t441 (ji20)) (ji26)))).heap[gb440]? = some (.cells #[.int .i64 t432, .int .i64 t433, .int .i64 t434, .int .i64 t435, .int .i64 t436, .int .i64 t437, .int .i64 t438, .string t439] 32 (0, 0))) := ⟨by (with_reducible repeat (first | refine bA ?_ _ | refine bB ?_ | refine bC ?_ _)); refine blk_far ?_ (by have h_ := Kd.R_ne HO_4.out BK440.out (by decide); intro e_; exact h_ (by rw [e_]; rfl)) _; (with_reducible repeat (first | refine bA ?_ _ | refine bB ?_ | refine bC ?_ _)); exact BK440.out⟩
          have n2_ : Aside0 (Below w.heap.size w (w30.setCell ⟨go27, ((ji20) : Int).toNat, none⟩ (.int .u8 (Go.bits .xor .u8 (rd t441 (ji20)) (ji26))))) := ⟨by repeat (first | (with_reducible first | exact HB.out | apply bE | apply bD | apply bF | refine below_set ?_ GB27.out | refine below_set ?_ GE440.out) | exact HB.out)⟩
          (try clear HO_4)
          (try clear BK440)
          (try clear HB)
          (try rw [set_drewN_])
          generalize (w30.setCell ⟨go27, ((ji20) : Int).toNat, none⟩ (.int .u8 (Go.bits .xor .u8 (rd t441 (ji20)) (ji26)))) = w32 at n0_ n1_ n2_ ⊢
          have HO_4 := n0_
          have BK440 := n1_
          have HB := n2_
          clear n0_ n1_ n2_
          try go_wp2_with (first | ((with_reducible refine gate_callee (f := 19) rfl ?_); refine goesL_ (some 50) rfl rfl Try.func19 (by kernel_rfl) rfl #[.slice (some ⟨go27, 0, none⟩) y449.length co29] rfl (by (try simp only [List.map_toArray, List.map_cons, List.map_nil]); first | done | (rw [show y449.length = t441.length from (Kd.R_reads' HO_4.out).1.symm] <;> rfl) | rfl | (simp only [List.length_drop, List.length_take]; rfl)) ?_; (with_reducible refine (impl_Unpack.calls kj7 _ _ y449 t450 t451 t452 t453 t454 t455 t456 t457 t458 _ ?side1 ?side2 A28.out).mono ?_); (case side1 => repeat (first | exact (Kd.R_reads' HO_4.out).2.2 | (with_reducible refine Kd.C_alloc ?_ _) | (with_reducible refine Kd.C_drewN ?_ _) | (with_reducible refine Kd.C_drew ?_))); (case side2 => rw [show y449.length = t441.length from (Kd.R_reads' HO_4.out).1.symm]; exact (Kd.R_reads' HO_4.out).2.1); rintro e w33 ⟨rfl, hb⟩; refine ⟨_, rfl, ?_⟩; have n0_ := zM (Kd.R_below (by (with_reducible repeat (first | apply Kd.R_alloc | apply Kd.R_drewN | apply Kd.R_drew)); exact HO_4.out) hb); have n1_ := zM (blk_below (g := gb440) (o := .cells #[.int .i64 t432, .int .i64 t433, .int .i64 t434, .int .i64 t435, .int .i64 t436, .int .i64 t437, .int .i64 t438, .string t439] 32 (0, 0)) (by (with_reducible repeat (first | refine bA ?_ _ | refine bB ?_ | refine bC ?_ _)); exact BK440.out) hb); have n2_ := zM (bG (by repeat (first | (with_reducible first | exact HB.out | apply bE | apply bD | apply bF | refine below_set ?_ GE440.out) | exact HB.out)) hb); clear HO_4; clear BK440; clear HB; have HO_4 := n0_; have BK440 := n1_; have HB := n2_; clear n0_ n1_ n2_; (try clear hb); (try clear hk); (try clear hi)) | ((with_reducible refine gate_dst (N := 7) rfl ?_); (try (refine gate_guard (by rfl) ?_; dsimp only)); refine box_event ?hg (N := 7) ?hd (cs := #[.int .i64 0, .int .i64 0, .int .i64 0, .int .i64 0, .int .i64 0, .int .i64 0, .int .i64 0, .string (⟨#[]⟩ : ByteArray)]) (t := 32) ?hr ?_; (case hd => rfl); (case hg => rfl); (case hr => first | (go_simp; done) | (go_simp; rfl)); intro gb459 hg w34 hbox hb; have n0_ := zM (Kd.R_below (by (with_reducible repeat (first | apply Kd.R_alloc | apply Kd.R_drewN | apply Kd.R_drew)); exact HO_4.out) hb); have n1_ := zM (blk_below (g := gb440) (o := .cells #[.int .i64 t432, .int .i64 t433, .int .i64 t434, .int .i64 t435, .int .i64 t436, .int .i64 t437, .int .i64 t438, .string t439] 32 (0, 0)) (by (with_reducible repeat (first | refine bA ?_ _ | refine bB ?_ | refine bC ?_ _)); exact BK440.out) hb); have n2_ := zM (bG (by repeat (first | (with_reducible first | exact HB.out | apply bE | apply bD | apply bF | refine below_set ?_ GE440.out) | exact HB.out)) hb); have n3_ := zM (hbox); have n4_ := zM ((by rw [hg]; exact (below_size (by repeat (first | (with_reducible first | exact HB.out | apply bE | apply bD | apply bF | refine below_set ?_ GE440.out) | exact HB.out))) : w.heap.size ≤ gb459)); have n5_ := zM ((by rw [hg]; exact (below_size (by repeat (first | (with_reducible first | exact HB.out | apply bE | apply bD | apply bF | refine below_set ?_ GE440.out) | exact HB.out))) : w.heap.size ≤ gb459)); have n6_ := zM ((by rw [hg]; exact Nat.ne_of_lt (blk_lt (g := gb440) (o := .cells #[.int .i64 t432, .int .i64 t433, .int .i64 t434, .int .i64 t435, .int .i64 t436, .int .i64 t437, .int .i64 t438, .string t439] 32 (0, 0)) (by (with_reducible repeat (first | refine bA ?_ _ | refine bB ?_ | refine bC ?_ _)); exact BK440.out)) : gb440 ≠ gb459)); have n7_ := zM ((by rw [hg]; exact Nat.ne_of_gt (blk_lt (g := gb440) (o := .cells #[.int .i64 t432, .int .i64 t433, .int .i64 t434, .int .i64 t435, .int .i64 t436, .int .i64 t437, .int .i64 t438, .string t439] 32 (0, 0)) (by (with_reducible repeat (first | refine bA ?_ _ | refine bB ?_ | refine bC ?_ _)); exact BK440.out)) : gb459 ≠ gb440)); clear HO_4; clear BK440; clear HB; have HO_4 := n0_; have BK440 := n1_; have HB := n2_; have BK459 := n3_; have GW459 := n4_; have GE459 := n5_; have NB440_459 := n6_; have NB459_440 := n7_; clear n0_ n1_ n2_ n3_ n4_ n5_ n6_ n7_; clear hb hbox hg; have hnb35 := NB459_440.out; have hnc35 := NB440_459.out; have hcz36_0 : w34.cell? ⟨gb459, 0, none⟩ = some (.int .i64 0) := (blk_cell BK459.out 0).trans rfl; have hcz36_1 : w34.cell? ⟨gb459, 1, none⟩ = some (.int .i64 0) := (blk_cell BK459.out 1).trans rfl; have hcz36_2 : w34.cell? ⟨gb459, 2, none⟩ = some (.int .i64 0) := (blk_cell BK459.out 2).trans rfl; have hcz36_3 : w34.cell? ⟨gb459, 3, none⟩ = some (.int .i64 0) := (blk_cell BK459.out 3).trans rfl; have hcz36_4 : w34.cell? ⟨gb459, 4, none⟩ = some (.int .i64 0) := (blk_cell BK459.out 4).trans rfl; have hcz36_5 : w34.cell? ⟨gb459, 5, none⟩ = some (.int .i64 0) := (blk_cell BK459.out 5).trans rfl; have hcz36_6 : w34.cell? ⟨gb459, 6, none⟩ = some (.int .i64 0) := (blk_cell BK459.out 6).trans rfl; have hcz36_7 : w34.cell? ⟨gb459, 7, none⟩ = some (.string (⟨#[]⟩ : ByteArray)) := (blk_cell BK459.out 7).trans rfl; have hfz36_0 := blk_frozen BK459.out 0; have hfz36_1 := blk_frozen BK459.out 1; have hfz36_2 := blk_frozen BK459.out 2; have hfz36_3 := blk_frozen BK459.out 3; have hfz36_4 := blk_frozen BK459.out 4; have hfz36_5 := blk_frozen BK459.out 5; have hfz36_6 := blk_frozen BK459.out 6; have hfz36_7 := blk_frozen BK459.out 7))
          go_ret
          exact ⟨by first | rfl | (simp only [← hji20, ← hji24, ← hji26]; first | rfl | (simp [errW_none, errW_some] <;> rfl)) | (simp [*, errW_none, errW_some] <;> rfl), by repeat (first | (with_reducible first | exact HB.out | apply bE | apply bD | apply bF | refine below_set ?_ GE440.out | refine below_set ?_ GE459.out) | exact HB.out)⟩
         ·rw [if_neg c25] at H
          exact absurd H (by simp)
        ·rw [if_neg c22] at H
         exact absurd H (by simp)
       ·rw [if_neg c21] at H
        exact absurd H (by simp)
  ·replace c7 := Bool.eq_false_iff.mpr c7
   subst c7
   have H1 : (some (!t444)) = some r := by rw [if_neg (show ¬ (false = true) by decide)] at H; exact H
   clear H
   have H := H1
   clear H1
   obtain rfl := Option.some.inj H
   simp only [zI, zJ] at H
   obtain ⟨rfl⟩ := H
   go_enter Try.func5, Try.ntmps5
   go_wp2_with (first | ((with_reducible refine gate_callee (f := 21) rfl ?_); refine goesL_ (some 10) rfl rfl Try.func21 (by kernel_rfl) rfl #[.slice A0 l0.length c0] rfl (by (try simp only [List.map_toArray, List.map_cons, List.map_nil]); first | done | rfl) ?_; (with_reducible refine (laws_big.calls _ _ l0 false _ ?side1 ?side2 A2.out).mono ?_); (case side1 => repeat (first | exact HR0.out | (with_reducible refine Kd.C_alloc ?_ _) | (with_reducible refine Kd.C_drewN ?_ _) | (with_reducible refine Kd.C_drew ?_))); (case side2 => exact HC0.out); rintro e w' ⟨rfl, ⟨nd, rfl⟩⟩; refine ⟨_, rfl, ?_⟩) | ((with_reducible refine gate_callee (f := 22) rfl ?_); refine goesL_ (some 12) rfl rfl Try.func22 (by kernel_rfl) rfl #[.slice A0 l0.length c0] rfl (by (try simp only [List.map_toArray, List.map_cons, List.map_nil]); first | done | rfl) ?_; (with_reducible refine (spec_DrawPack.calls k _ _ l0 t432 t433 t434 t435 t436 t437 t438 t439 _ ?side1 ?side2 A4.out).mono ?_); (case side1 => repeat (first | exact HR0.out | (with_reducible refine Kd.C_alloc ?_ _) | (with_reducible refine Kd.C_drewN ?_ _) | (with_reducible refine Kd.C_drew ?_))); (case side2 => exact HC0.out); rintro e w37 ⟨rfl, hb⟩; refine ⟨_, rfl, ?_⟩; have n0_ := zM (bG (by repeat (first | (with_reducible first | exact HB.out | apply bE | apply bD | apply bF) | exact HB.out)) hb); clear HB; have HB := n0_; clear n0_; (try clear hb); (try clear hk); (try clear hi)) | ((with_reducible refine gate_dst (N := 3) rfl ?_); (try (refine gate_guard (by rfl) ?_; dsimp only)); refine box_event ?hg (N := 3) ?hd (cs := #[.int .i64 0, .int .i64 0, .int .i64 0, .int .i64 0, .int .i64 0, .int .i64 0, .int .i64 0, .string (⟨#[]⟩ : ByteArray)]) (t := 32) ?hr ?_; (case hd => rfl); (case hg => rfl); (case hr => first | (go_simp; done) | (go_simp; rfl)); intro gb440 hg w38 hbox hb; have n0_ := zM (bG (by repeat (first | (with_reducible first | exact HB.out | apply bE | apply bD | apply bF) | exact HB.out)) hb); have n1_ := zM (hbox); have n2_ := zM ((by rw [hg]; exact (below_size (by repeat (first | (with_reducible first | exact HB.out | apply bE | apply bD | apply bF) | exact HB.out))) : w.heap.size ≤ gb440)); have n3_ := zM ((by rw [hg]; exact (below_size (by repeat (first | (with_reducible first | exact HB.out | apply bE | apply bD | apply bF) | exact HB.out))) : w.heap.size ≤ gb440)); clear HB; have HB := n0_; have BK440 := n1_; have GW440 := n2_; have GE440 := n3_; clear n0_ n1_ n2_ n3_; clear hb hbox hg; have hcz39_0 : w38.cell? ⟨gb440, 0, none⟩ = some (.int .i64 0) := (blk_cell BK440.out 0).trans rfl; have hcz39_1 : w38.cell? ⟨gb440, 1, none⟩ = some (.int .i64 0) := (blk_cell BK440.out 1).trans rfl; have hcz39_2 : w38.cell? ⟨gb440, 2, none⟩ = some (.int .i64 0) := (blk_cell BK440.out 2).trans rfl; have hcz39_3 : w38.cell? ⟨gb440, 3, none⟩ = some (.int .i64 0) := (blk_cell BK440.out 3).trans rfl; have hcz39_4 : w38.cell? ⟨gb440, 4, none⟩ = some (.int .i64 0) := (blk_cell BK440.out 4).trans rfl; have hcz39_5 : w38.cell? ⟨gb440, 5, none⟩ = some (.int .i64 0) := (blk_cell BK440.out 5).trans rfl; have hcz39_6 : w38.cell? ⟨gb440, 6, none⟩ = some (.int .i64 0) := (blk_cell BK440.out 6).trans rfl; have hcz39_7 : w38.cell? ⟨gb440, 7, none⟩ = some (.string (⟨#[]⟩ : ByteArray)) := (blk_cell BK440.out 7).trans rfl; have hfz39_0 := blk_frozen BK440.out 0; have hfz39_1 := blk_frozen BK440.out 1; have hfz39_2 := blk_frozen BK440.out 2; have hfz39_3 := blk_frozen BK440.out 3; have hfz39_4 := blk_frozen BK440.out 4; have hfz39_5 := blk_frozen BK440.out 5; have hfz39_6 := blk_frozen BK440.out 6; have hfz39_7 := blk_frozen BK440.out 7) | ((with_reducible refine gate_callee (f := 13) rfl ?_); refine goesL_ (some 15) rfl rfl Try.func13 (by kernel_rfl) rfl #[.agg #[.int .i64 t432, .int .i64 t433, .int .i64 t434, .int .i64 t435, .int .i64 t436, .int .i64 t437, .int .i64 t438, .string t439]] rfl (by (try simp only [List.map_toArray, List.map_cons, List.map_nil]); first | done | rfl) ?_; (with_reducible refine (impl_Pack.calls k t432 t433 t434 t435 t436 t437 t438 t439 t441 t444 _ A5.out).mono ?_); rintro e w40 ⟨v442, rfl, ho0, hb⟩; refine ⟨_, rfl, ?_⟩; have n0_ := zM (Kd.R_lower ho0 (below_size (by repeat (first | (with_reducible first | exact HB.out | apply bE | apply bD | apply bF | refine below_set ?_ GE440.out) | exact HB.out)))); have n1_ := zM (blk_below (g := gb440) (o := .cells #[.int .i64 t432, .int .i64 t433, .int .i64 t434, .int .i64 t435, .int .i64 t436, .int .i64 t437, .int .i64 t438, .string t439] 32 (0, 0)) (by (with_reducible repeat (first | refine bA ?_ _ | refine bB ?_ | refine bC ?_ _)); refine bH (cs := #[.int .i64 t432, .int .i64 t433, .int .i64 t434, .int .i64 t435, .int .i64 t436, .int .i64 t437, .int .i64 t438, .string (⟨#[]⟩ : ByteArray)]) ?_ 7 _ rfl; (with_reducible repeat (first | refine bA ?_ _ | refine bB ?_ | refine bC ?_ _)); refine bH (cs := #[.int .i64 t432, .int .i64 t433, .int .i64 t434, .int .i64 t435, .int .i64 t436, .int .i64 t437, .int .i64 0, .string (⟨#[]⟩ : ByteArray)]) ?_ 6 _ rfl; (with_reducible repeat (first | refine bA ?_ _ | refine bB ?_ | refine bC ?_ _)); refine bH (cs := #[.int .i64 t432, .int .i64 t433, .int .i64 t434, .int .i64 t435, .int .i64 t436, .int .i64 0, .int .i64 0, .string (⟨#[]⟩ : ByteArray)]) ?_ 5 _ rfl; (with_reducible repeat (first | refine bA ?_ _ | refine bB ?_ | refine bC ?_ _)); refine bH (cs := #[.int .i64 t432, .int .i64 t433, .int .i64 t434, .int .i64 t435, .int .i64 0, .int .i64 0, .int .i64 0, .string (⟨#[]⟩ : ByteArray)]) ?_ 4 _ rfl; (with_reducible repeat (first | refine bA ?_ _ | refine bB ?_ | refine bC ?_ _)); refine bH (cs := #[.int .i64 t432, .int .i64 t433, .int .i64 t434, .int .i64 0, .int .i64 0, .int .i64 0, .int .i64 0, .string (⟨#[]⟩ : ByteArray)]) ?_ 3 _ rfl; (with_reducible repeat (first | refine bA ?_ _ | refine bB ?_ | refine bC ?_ _)); refine bH (cs := #[.int .i64 t432, .int .i64 t433, .int .i64 0, .int .i64 0, .int .i64 0, .int .i64 0, .int .i64 0, .string (⟨#[]⟩ : ByteArray)]) ?_ 2 _ rfl; (with_reducible repeat (first | refine bA ?_ _ | refine bB ?_ | refine bC ?_ _)); refine bH (cs := #[.int .i64 t432, .int .i64 0, .int .i64 0, .int .i64 0, .int .i64 0, .int .i64 0, .int .i64 0, .string (⟨#[]⟩ : ByteArray)]) ?_ 1 _ rfl; (with_reducible repeat (first | refine bA ?_ _ | refine bB ?_ | refine bC ?_ _)); refine bH (cs := #[.int .i64 0, .int .i64 0, .int .i64 0, .int .i64 0, .int .i64 0, .int .i64 0, .int .i64 0, .string (⟨#[]⟩ : ByteArray)]) ?_ 0 _ rfl; (with_reducible repeat (first | refine bA ?_ _ | refine bB ?_ | refine bC ?_ _)); exact BK440.out) hb); have n2_ := zM (bG (by repeat (first | (with_reducible first | exact HB.out | apply bE | apply bD | apply bF | refine below_set ?_ GE440.out) | exact HB.out)) hb); clear BK440; clear HB; have HO443 := n0_; have BK440 := n1_; have HB := n2_; clear n0_ n1_ n2_; (try clear hb); (try clear hk); (try clear hi); (try clear ho0); have hcz41_0 : w40.cell? ⟨gb440, 0, none⟩ = some (.int .i64 t432) := (blk_cell BK440.out 0).trans rfl; have hcz41_1 : w40.cell? ⟨gb440, 1, none⟩ = some (.int .i64 t433) := (blk_cell BK440.out 1).trans rfl; have hcz41_2 : w40.cell? ⟨gb440, 2, none⟩ = some (.int .i64 t434) := (blk_cell BK440.out 2).trans rfl; have hcz41_3 : w40.cell? ⟨gb440, 3, none⟩ = some (.int .i64 t435) := (blk_cell BK440.out 3).trans rfl; have hcz41_4 : w40.cell? ⟨gb440, 4, none⟩ = some (.int .i64 t436) := (blk_cell BK440.out 4).trans rfl; have hcz41_5 : w40.cell? ⟨gb440, 5, none⟩ = some (.int .i64 t437) := (blk_cell BK440.out 5).trans rfl; have hcz41_6 : w40.cell? ⟨gb440, 6, none⟩ = some (.int .i64 t438) := (blk_cell BK440.out 6).trans rfl; have hcz41_7 : w40.cell? ⟨gb440, 7, none⟩ = some (.string t439) := (blk_cell BK440.out 7).trans rfl; have hfz41_0 := blk_frozen BK440.out 0; have hfz41_1 := blk_frozen BK440.out 1; have hfz41_2 := blk_frozen BK440.out 2; have hfz41_3 := blk_frozen BK440.out 3; have hfz41_4 := blk_frozen BK440.out 4; have hfz41_5 := blk_frozen BK440.out 5; have hfz41_6 := blk_frozen BK440.out 6; have hfz41_7 := blk_frozen BK440.out 7) | ((with_reducible refine gate_callee (f := 23) rfl ?_); refine goesL_ (some 19) rfl rfl Try.func23 (by kernel_rfl) rfl #[.agg #[.int .i64 t432, .int .i64 t433, .int .i64 t434, .int .i64 t435, .int .i64 t436, .int .i64 t437, .int .i64 t438, .string t439]] rfl (by (try simp only [List.map_toArray, List.map_cons, List.map_nil]); first | done | rfl) ?_; (with_reducible refine (spec_MsgOk.calls k t432 t433 t434 t435 t436 t437 t438 t439 false _ A6.out).mono ?_); rintro e w42 ⟨rfl, hb⟩; refine ⟨_, rfl, ?_⟩; have n0_ := zM (Kd.R_below (by (with_reducible repeat (first | apply Kd.R_alloc | apply Kd.R_drewN | apply Kd.R_drew)); exact HO443.out) hb); have n1_ := zM (blk_below (g := gb440) (o := .cells #[.int .i64 t432, .int .i64 t433, .int .i64 t434, .int .i64 t435, .int .i64 t436, .int .i64 t437, .int .i64 t438, .string t439] 32 (0, 0)) (by (with_reducible repeat (first | refine bA ?_ _ | refine bB ?_ | refine bC ?_ _)); exact BK440.out) hb); have n2_ := zM (bG (by repeat (first | (with_reducible first | exact HB.out | apply bE | apply bD | apply bF | refine below_set ?_ GE440.out) | exact HB.out)) hb); clear HO443; clear BK440; clear HB; have HO443 := n0_; have BK440 := n1_; have HB := n2_; clear n0_ n1_ n2_; (try clear hb); (try clear hk); (try clear hi)))
   go_ret
   exact ⟨by first | rfl | (simp [*, errW_none, errW_some] <;> rfl), by repeat (first | (with_reducible first | exact HB.out | apply bE | apply bD | apply bF | refine below_set ?_ GE440.out) | exact HB.out)⟩

/-- THE ONE PURE STATEMENT of laws_FnOneBit: yours. -/
def laws_FnOneBit.Pure : Prop := ∀ (l0 : List Int), l0.length ≤ maxLen → l0.length * 1 ≤ 140737488351232 → (∀ x ∈ l0, (Lit.int .u8 x).wf = true) → ∃ k, laws_FnOneBit.f k l0 = some true
theorem laws_FnOneBit.walk (P : laws_FnOneBit.Pure) (a0 : Option Addr) (len0 cap0 : Nat) (z0 : List Int) (w : World) (w0 : (a0 = none ∧ len0 = 0 ∧ cap0 = 0 ∧ z0 = []) ∨ ∃ x, a0 = some x ∧ len0 ≤ cap0 ∧ cap0 ≤ maxLen ∧ z0.length = cap0 ∧ (∀ i, i < z0.length → w.cell? (x.add i) = some (.int .u8 (z0.getD i 0))) ∧ ∀ n ∈ z0, (Lit.int .u8 n).wf = true) (y0 : len0 * 1 ≤ 140737488351232) :
  Calls Try.prog 5 #[.slice a0 len0 cap0] w fun e w' => e = .returned (.bool true) ∧ Below w.heap.size w w' := by
 obtain ⟨l0, rfl, hr0, hm0, hw0, hc0⟩ := ReadsInt.ofRowC w0
 obtain ⟨k, h⟩ := P l0 hm0 y0 hw0
 refine (laws_FnOneBit.calls k _ _ l0 true w (Kd.C_of_reads (d := (0 : Int)) (h1 := fun _ => rfl) hr0) hc0 (zM rfl) h).mono ?_
 rintro e w' ⟨rfl, hd⟩
 exact ⟨rfl, hd⟩

end Go.Proofs.Ytpnfbekbkeiahaa.XFnOneBit
