-- Written by a program of this claim's session (wip/xprint.py), out of the translation.
import Derived.Test.YtpnfbekbkeiahaaTEUnpackXFnExactUnpackx0
import Derived.Test.YtpnfbekbkeiahaaTEUnpackXFnExactUnpackx3
import Derived.Test.YtpnfbekbkeiahaaTEUnpackXFnExactUnpackx4
import Derived.Test.YtpnfbekbkeiahaaTEUnpackXFnExactUnpackx5
namespace Go.Proofs.Ytpnfbekbkeiahaa.XFnExactUnpack
open Go.RowKit Go.Proofs.YtpnfbekbkeiahaaW.PrintWords Go.Proofs.YtpnfbekbkeiahaaW.PrintLast Go.Proofs.YtpnfbekbkeiahaaW.PrintMore
open Go.Proofs.YtpnfbekbkeiahaaW.PrintWords renaming blk_drewN → bA, blk_drew → bB, blk_alloc → bC, pw_below_drewN → bD, below_alloc → bE, below_drew1 → bF, Aside0.mk → zM, below_step → bG, blk_put → bH
open List renaming setIfInBounds_toArray → zS, set_cons_zero → z0, set_cons_succ → z1
attribute [local go_sem] max2_int min2_int max_two min_two max_three min_three max_four min_four
set_option linter.unusedVariables false
set_option linter.unusedSimpArgs false
set_option maxHeartbeats 8000000
set_option maxRecDepth 100000

/-! ### spec_Unpack: function 17 -/
mutual
def spec_Unpack.j0 : Nat → List Int → Int → Int → Int → Int → Int → Int → Int → ByteArray → Option (Int × Int × Int × Int × Int × Int × Int × ByteArray × Int)
 | 0, _, _, _, _, _, _, _, _, _ => none
 | k + 1, x0, x120000, x120001, x120002, x120003, x120004, x120005, x120006, x120007 => if 0 ≤ (wrap64 ((x0.length : Int) - 1)) then (if (wrap64 ((x0.length : Int) - 1)) ≤ (x0.length : Int) then ((spec_Check8.f k (x0.take ((wrap64 ((x0.length : Int) - 1)) : Int).toNat)).bind fun t121 => (if (wrap64 ((x0.length : Int) - 1)) < (x0.length : Int) then (if t121 = (wrap64 (rd x0 (wrap64 ((x0.length : Int) - 1)))) then (spec_Unpack.j1 k (x0.take ((wrap64 ((x0.length : Int) - 1)) : Int).toNat) x120000 x120001 x120002 x120003 x120004 x120005 x120006 x120007) else (some (x120000, x120001, x120002, x120003, x120004, x120005, x120006, x120007, 2))) else (none))) else (none)) else (none)
def spec_Unpack.j1 : Nat → List Int → Int → Int → Int → Int → Int → Int → Int → ByteArray → Option (Int × Int × Int × Int × Int × Int × Int × ByteArray × Int)
 | 0, _, _, _, _, _, _, _, _, _ => none
 | k + 1, x5, x120000, x120001, x120002, x120003, x120004, x120005, x120006, x120007 => if 0 < (x5.length : Int) then ((spec_l1In.f (wrap64 (rd x5 0)) 1 3).bind fun t124 => (if t124 = true then (spec_Unpack.j2 k x5 (wrap64 (rd x5 0)) x120000 x120001 x120002 x120003 x120004 x120005 x120006 x120007) else (some (x120000, x120001, x120002, x120003, x120004, x120005, x120006, x120007, 3)))) else (none)
def spec_Unpack.j2 : Nat → List Int → Int → Int → Int → Int → Int → Int → Int → Int → ByteArray → Option (Int × Int × Int × Int × Int × Int × Int × ByteArray × Int)
 | 0, _, _, _, _, _, _, _, _, _, _ => none
 | k + 1, x5, x6, x120000, x120001, x120002, x120003, x120004, x120005, x120006, x120007 => (some (([0, 3, 5, 3] : List Int) : List Int)).bind fun y125 => (if 0 ≤ x6 then (if x6 < (y125.length : Int) then (spec_Unpack.l0 k x5 x6 (rd y125 x6) (([] : List Int)) 1 0 x120000 x120001 x120002 x120003 x120004 x120005 x120006 x120007) else (none)) else (none))
def spec_Unpack.l0 : Nat → List Int → Int → Int → List Int → Int → Int → Int → Int → Int → Int → Int → Int → Int → ByteArray → Option (Int × Int × Int × Int × Int × Int × Int × ByteArray × Int)
 | 0, _, _, _, _, _, _, _, _, _, _, _, _, _, _ => none
 | k + 1, x5, x6, x7, x8, x9, x10, x120000, x120001, x120002, x120003, x120004, x120005, x120006, x120007 => if x10 < x7 then ((spec_GetNum.f k x5 x9).bind fun bt132 => (if bt132.2.2 = true then (if bt132.1 > 4000000000000 then (some (x120000, x120001, x120002, x120003, x120004, x120005, x120006, x120007, 4)) else (if x8.length < 17592186044416 then (spec_Unpack.l0 k x5 x6 x7 (x8 ++ [bt132.1]) bt132.2.1 (wrap64 (x10 + 1)) x120000 x120001 x120002 x120003 x120004 x120005 x120006 x120007) else (none))) else (some (x120000, x120001, x120002, x120003, x120004, x120005, x120006, x120007, 4)))) else (if 0 < (x8.length : Int) then (if x6 = 3 then (if 1 < (x8.length : Int) then (if 2 < (x8.length : Int) then (if (wrap64 ((x5.length : Int) - x9)) < (rd x8 2) then (some (x120000, x120001, x120002, x120003, x120004, x120005, x120006, x120007, 4)) else (if 0 ≤ x9 then (if x9 ≤ (wrap64 (x9 + (rd x8 2))) then (if (wrap64 (x9 + (rd x8 2))) ≤ (x5.length : Int) then (spec_Unpack.j4 k x5 (wrap64 (x9 + (rd x8 2))) x120000 x120001 x120002 x120003 x120004 x120005 x120006 x120007 x6 (rd x8 0) 0 0 0 0 (rd x8 1) (strOfNums ((x5.take ((wrap64 (x9 + (rd x8 2))) : Int).toNat).drop (x9 : Int).toNat))) else (none)) else (none)) else (none))) else (none)) else (none)) else (if x6 = 2 then (if 1 < (x8.length : Int) then (if 2 < (x8.length : Int) then (if 3 < (x8.length : Int) then ((spec_l4End.f (rd x8 3)).bind fun t148 => (if 4 < (x8.length : Int) then ((spec_l4End.f (rd x8 4)).bind fun t150 => (spec_Unpack.j4 k x5 x9 x120000 x120001 x120002 x120003 x120004 x120005 x120006 x120007 x6 (rd x8 0) (rd x8 1) (rd x8 2) t148 t150 0 (⟨#[]⟩ : ByteArray))) else (none))) else (none)) else (none)) else (none)) else (if 1 < (x8.length : Int) then (if 2 < (x8.length : Int) then (spec_Unpack.j4 k x5 x9 x120000 x120001 x120002 x120003 x120004 x120005 x120006 x120007 x6 (rd x8 0) (rd x8 1) (rd x8 2) 0 0 0 (⟨#[]⟩ : ByteArray)) else (none)) else (none)))) else (none))
def spec_Unpack.j4 : Nat → List Int → Int → Int → Int → Int → Int → Int → Int → Int → ByteArray → Int → Int → Int → Int → Int → Int → Int → ByteArray → Option (Int × Int × Int × Int × Int × Int × Int × ByteArray × Int)
 | 0, _, _, _, _, _, _, _, _, _, _, _, _, _, _, _, _, _, _ => none
 | k + 1, x5, x9, x120000, x120001, x120002, x120003, x120004, x120005, x120006, x120007, x140000, x140001, x140002, x140003, x140004, x140005, x140006, x140007 => if x9 < (x5.length : Int) then (some (x120000, x120001, x120002, x120003, x120004, x120005, x120006, x120007, 6)) else ((spec_MsgOk.f k x140000 x140001 x140002 x140003 x140004 x140005 x140006 x140007).bind fun t153 => (if t153 = true then (some (x140000, x140001, x140002, x140003, x140004, x140005, x140006, x140007, 0)) else (some (x120000, x120001, x120002, x120003, x120004, x120005, x120006, x120007, 5))))
end
def spec_Unpack.f (k : Nat) (l0 : List Int) : Option (Int × Int × Int × Int × Int × Int × Int × ByteArray × Int) := if (l0.length : Int) < 2 then (some (0, 0, 0, 0, 0, 0, 0, (⟨#[]⟩ : ByteArray), 1)) else (spec_Unpack.j0 k l0 0 0 0 0 0 0 0 (⟨#[]⟩ : ByteArray))
theorem spec_Unpack.mono_l : ∀ k, (∀ y0 y1 y2 y3 y4 y5 y6 y7 y8, LeO (spec_Unpack.j0 k y0 y1 y2 y3 y4 y5 y6 y7 y8) (spec_Unpack.j0 (k + 1) y0 y1 y2 y3 y4 y5 y6 y7 y8)) ∧ (∀ y0 y1 y2 y3 y4 y5 y6 y7 y8, LeO (spec_Unpack.j1 k y0 y1 y2 y3 y4 y5 y6 y7 y8) (spec_Unpack.j1 (k + 1) y0 y1 y2 y3 y4 y5 y6 y7 y8)) ∧ (∀ y0 y1 y2 y3 y4 y5 y6 y7 y8 y9, LeO (spec_Unpack.j2 k y0 y1 y2 y3 y4 y5 y6 y7 y8 y9) (spec_Unpack.j2 (k + 1) y0 y1 y2 y3 y4 y5 y6 y7 y8 y9)) ∧ (∀ y0 y1 y2 y3 y4 y5 y6 y7 y8 y9 y10 y11 y12 y13, LeO (spec_Unpack.l0 k y0 y1 y2 y3 y4 y5 y6 y7 y8 y9 y10 y11 y12 y13) (spec_Unpack.l0 (k + 1) y0 y1 y2 y3 y4 y5 y6 y7 y8 y9 y10 y11 y12 y13)) ∧ (∀ y0 y1 y2 y3 y4 y5 y6 y7 y8 y9 y10 y11 y12 y13 y14 y15 y16 y17, LeO (spec_Unpack.j4 k y0 y1 y2 y3 y4 y5 y6 y7 y8 y9 y10 y11 y12 y13 y14 y15 y16 y17) (spec_Unpack.j4 (k + 1) y0 y1 y2 y3 y4 y5 y6 y7 y8 y9 y10 y11 y12 y13 y14 y15 y16 y17))
 | 0 => ⟨fun _ _ _ _ _ _ _ _ _ r h => by simp [spec_Unpack.j0] at h, fun _ _ _ _ _ _ _ _ _ r h => by simp [spec_Unpack.j1] at h, fun _ _ _ _ _ _ _ _ _ _ r h => by simp [spec_Unpack.j2] at h, fun _ _ _ _ _ _ _ _ _ _ _ _ _ _ r h => by simp [spec_Unpack.l0] at h, fun _ _ _ _ _ _ _ _ _ _ _ _ _ _ _ _ _ _ r h => by simp [spec_Unpack.j4] at h⟩
 | k + 1 => by
  obtain ⟨ih0, ih1, ih2, ih3, ih4⟩ := spec_Unpack.mono_l k
  refine ⟨?_, ?_, ?_, ?_, ?_⟩
  ·intro y0 y1 y2 y3 y4 y5 y6 y7 y8
   unfold spec_Unpack.j0
   repeat' first
   | (with_reducible exact ih0 _ _ _ _ _ _ _ _ _)
   | (with_reducible exact ih1 _ _ _ _ _ _ _ _ _)
   | (with_reducible exact ih2 _ _ _ _ _ _ _ _ _ _)
   | (with_reducible exact ih3 _ _ _ _ _ _ _ _ _ _ _ _ _ _)
   | (with_reducible exact ih4 _ _ _ _ _ _ _ _ _ _ _ _ _ _ _ _ _ _)
   | (with_reducible exact spec_Check8.mono _ _)
   | (with_reducible exact spec_GetNum.mono _ _ _)
   | (with_reducible exact spec_MsgOk.mono _ _ _ _ _ _ _ _ _)
   | (with_reducible exact LeO.refl _)
   | (with_reducible exact LeO.none _)
   | (with_reducible refine LeO.ite ?_ ?_)
   | (with_reducible refine LeO.bind ?_ (fun _ => ?_))
   | exact ih0 _ _ _ _ _ _ _ _ _
   | exact ih1 _ _ _ _ _ _ _ _ _
   | exact ih2 _ _ _ _ _ _ _ _ _ _
   | exact ih3 _ _ _ _ _ _ _ _ _ _ _ _ _ _
   | exact ih4 _ _ _ _ _ _ _ _ _ _ _ _ _ _ _ _ _ _
   | exact spec_Check8.mono _ _
   | exact spec_GetNum.mono _ _ _
   | exact spec_MsgOk.mono _ _ _ _ _ _ _ _ _
   | exact LeO.none _
   | refine LeO.ite ?_ ?_
   | refine LeO.bind ?_ (fun _ => ?_)
  ·intro y0 y1 y2 y3 y4 y5 y6 y7 y8
   unfold spec_Unpack.j1
   repeat' first
   | (with_reducible exact ih0 _ _ _ _ _ _ _ _ _)
   | (with_reducible exact ih1 _ _ _ _ _ _ _ _ _)
   | (with_reducible exact ih2 _ _ _ _ _ _ _ _ _ _)
   | (with_reducible exact ih3 _ _ _ _ _ _ _ _ _ _ _ _ _ _)
   | (with_reducible exact ih4 _ _ _ _ _ _ _ _ _ _ _ _ _ _ _ _ _ _)
   | (with_reducible exact spec_Check8.mono _ _)
   | (with_reducible exact spec_GetNum.mono _ _ _)
   | (with_reducible exact spec_MsgOk.mono _ _ _ _ _ _ _ _ _)
   | (with_reducible exact LeO.refl _)
   | (with_reducible exact LeO.none _)
   | (with_reducible refine LeO.ite ?_ ?_)
   | (with_reducible refine LeO.bind ?_ (fun _ => ?_))
   | exact ih0 _ _ _ _ _ _ _ _ _
   | exact ih1 _ _ _ _ _ _ _ _ _
   | exact ih2 _ _ _ _ _ _ _ _ _ _
   | exact ih3 _ _ _ _ _ _ _ _ _ _ _ _ _ _
   | exact ih4 _ _ _ _ _ _ _ _ _ _ _ _ _ _ _ _ _ _
   | exact spec_Check8.mono _ _
   | exact spec_GetNum.mono _ _ _
   | exact spec_MsgOk.mono _ _ _ _ _ _ _ _ _
   | exact LeO.none _
   | refine LeO.ite ?_ ?_
   | refine LeO.bind ?_ (fun _ => ?_)
  ·intro y0 y1 y2 y3 y4 y5 y6 y7 y8 y9
   unfold spec_Unpack.j2
   repeat' first
   | (with_reducible exact ih0 _ _ _ _ _ _ _ _ _)
   | (with_reducible exact ih1 _ _ _ _ _ _ _ _ _)
   | (with_reducible exact ih2 _ _ _ _ _ _ _ _ _ _)
   | (with_reducible exact ih3 _ _ _ _ _ _ _ _ _ _ _ _ _ _)
   | (with_reducible exact ih4 _ _ _ _ _ _ _ _ _ _ _ _ _ _ _ _ _ _)
   | (with_reducible exact spec_Check8.mono _ _)
   | (with_reducible exact spec_GetNum.mono _ _ _)
   | (with_reducible exact spec_MsgOk.mono _ _ _ _ _ _ _ _ _)
   | (with_reducible exact LeO.refl _)
   | (with_reducible exact LeO.none _)
   | (with_reducible refine LeO.ite ?_ ?_)
   | (with_reducible refine LeO.bind ?_ (fun _ => ?_))
   | exact ih0 _ _ _ _ _ _ _ _ _
   | exact ih1 _ _ _ _ _ _ _ _ _
   | exact ih2 _ _ _ _ _ _ _ _ _ _
   | exact ih3 _ _ _ _ _ _ _ _ _ _ _ _ _ _
   | exact ih4 _ _ _ _ _ _ _ _ _ _ _ _ _ _ _ _ _ _
   | exact spec_Check8.mono _ _
   | exact spec_GetNum.mono _ _ _
   | exact spec_MsgOk.mono _ _ _ _ _ _ _ _ _
   | exact LeO.none _
   | refine LeO.ite ?_ ?_
   | refine LeO.bind ?_ (fun _ => ?_)
  ·intro y0 y1 y2 y3 y4 y5 y6 y7 y8 y9 y10 y11 y12 y13
   unfold spec_Unpack.l0
   repeat' first
   | (with_reducible exact ih0 _ _ _ _ _ _ _ _ _)
   | (with_reducible exact ih1 _ _ _ _ _ _ _ _ _)
   | (with_reducible exact ih2 _ _ _ _ _ _ _ _ _ _)
   | (with_reducible exact ih3 _ _ _ _ _ _ _ _ _ _ _ _ _ _)
   | (with_reducible exact ih4 _ _ _ _ _ _ _ _ _ _ _ _ _ _ _ _ _ _)
   | (with_reducible exact spec_Check8.mono _ _)
   | (with_reducible exact spec_GetNum.mono _ _ _)
   | (with_reducible exact spec_MsgOk.mono _ _ _ _ _ _ _ _ _)
   | (with_reducible exact LeO.refl _)
   | (with_reducible exact LeO.none _)
   | (with_reducible refine LeO.ite ?_ ?_)
   | (with_reducible refine LeO.bind ?_ (fun _ => ?_))
   | exact ih0 _ _ _ _ _ _ _ _ _
   | exact ih1 _ _ _ _ _ _ _ _ _
   | exact ih2 _ _ _ _ _ _ _ _ _ _
   | exact ih3 _ _ _ _ _ _ _ _ _ _ _ _ _ _
   | exact ih4 _ _ _ _ _ _ _ _ _ _ _ _ _ _ _ _ _ _
   | exact spec_Check8.mono _ _
   | exact spec_GetNum.mono _ _ _
   | exact spec_MsgOk.mono _ _ _ _ _ _ _ _ _
   | exact LeO.none _
   | refine LeO.ite ?_ ?_
   | refine LeO.bind ?_ (fun _ => ?_)
  ·intro y0 y1 y2 y3 y4 y5 y6 y7 y8 y9 y10 y11 y12 y13 y14 y15 y16 y17
   unfold spec_Unpack.j4
   repeat' first
   | (with_reducible exact ih0 _ _ _ _ _ _ _ _ _)
   | (with_reducible exact ih1 _ _ _ _ _ _ _ _ _)
   | (with_reducible exact ih2 _ _ _ _ _ _ _ _ _ _)
   | (with_reducible exact ih3 _ _ _ _ _ _ _ _ _ _ _ _ _ _)
   | (with_reducible exact ih4 _ _ _ _ _ _ _ _ _ _ _ _ _ _ _ _ _ _)
   | (with_reducible exact spec_Check8.mono _ _)
   | (with_reducible exact spec_GetNum.mono _ _ _)
   | (with_reducible exact spec_MsgOk.mono _ _ _ _ _ _ _ _ _)
   | (with_reducible exact LeO.refl _)
   | (with_reducible exact LeO.none _)
   | (with_reducible refine LeO.ite ?_ ?_)
   | (with_reducible refine LeO.bind ?_ (fun _ => ?_))
   | exact ih0 _ _ _ _ _ _ _ _ _
   | exact ih1 _ _ _ _ _ _ _ _ _
   | exact ih2 _ _ _ _ _ _ _ _ _ _
   | exact ih3 _ _ _ _ _ _ _ _ _ _ _ _ _ _
   | exact ih4 _ _ _ _ _ _ _ _ _ _ _ _ _ _ _ _ _ _
   | exact spec_Check8.mono _ _
   | exact spec_GetNum.mono _ _ _
   | exact spec_MsgOk.mono _ _ _ _ _ _ _ _ _
   | exact LeO.none _
   | refine LeO.ite ?_ ?_
   | refine LeO.bind ?_ (fun _ => ?_)
theorem spec_Unpack.mono : ∀ a0 k, LeO (spec_Unpack.f k a0) (spec_Unpack.f (k + 1) a0) := by
 intro a0 k
 obtain ⟨ih0, ih1, ih2, ih3, ih4⟩ := spec_Unpack.mono_l k
 unfold spec_Unpack.f
 repeat' first
   | (with_reducible exact ih0 _ _ _ _ _ _ _ _ _)
   | (with_reducible exact ih1 _ _ _ _ _ _ _ _ _)
   | (with_reducible exact ih2 _ _ _ _ _ _ _ _ _ _)
   | (with_reducible exact ih3 _ _ _ _ _ _ _ _ _ _ _ _ _ _)
   | (with_reducible exact ih4 _ _ _ _ _ _ _ _ _ _ _ _ _ _ _ _ _ _)
   | (with_reducible exact spec_Check8.mono _ _)
   | (with_reducible exact spec_GetNum.mono _ _ _)
   | (with_reducible exact spec_MsgOk.mono _ _ _ _ _ _ _ _ _)
   | (with_reducible exact LeO.refl _)
   | (with_reducible exact LeO.none _)
   | (with_reducible refine LeO.ite ?_ ?_)
   | (with_reducible refine LeO.bind ?_ (fun _ => ?_))
   | exact ih0 _ _ _ _ _ _ _ _ _
   | exact ih1 _ _ _ _ _ _ _ _ _
   | exact ih2 _ _ _ _ _ _ _ _ _ _
   | exact ih3 _ _ _ _ _ _ _ _ _ _ _ _ _ _
   | exact ih4 _ _ _ _ _ _ _ _ _ _ _ _ _ _ _ _ _ _
   | exact spec_Check8.mono _ _
   | exact spec_GetNum.mono _ _ _
   | exact spec_MsgOk.mono _ _ _ _ _ _ _ _ _
   | exact LeO.none _
   | refine LeO.ite ?_ ?_
   | refine LeO.bind ?_ (fun _ => ?_)
def spec_Unpack.T5 : Bool × List (List Nat × List Nat) := (true, [([], []), ([0], [0]), ([], []), ([], []), ([3], [3]), ([4], [4]), ([2, 5], [2, 5]), ([6], [6]), ([7], [7]), ([1, 8], [1, 8])])
def spec_Unpack.B5 : List Nat := [0, 1, 0, 0, 8, 24, 60, 124, 252, 511]
theorem spec_Unpack.tab5 : rtab .any (opsOf Try.f17 5) = spec_Unpack.T5 := by kernel_rfl
theorem spec_Unpack.bits5 : waitsOk spec_Unpack.T5.2 spec_Unpack.B5 = true := by kernel_rfl
def spec_Unpack.T34 : Bool × List (List Nat × List Nat) := (true, [([], []), ([0], [0]), ([1], [1]), ([2], [2]), ([], []), ([4], [4]), ([5], [5]), ([6, 3], [6]), ([3, 7], [3, 7]), ([0, 1, 2, 3, 4, 5, 6, 7, 8], []), ([9, 8, 7, 0, 1, 2, 3, 4, 5, 6, 7, 8], [8, 9])])
def spec_Unpack.B34 : List Nat := [0, 1, 3, 7, 0, 16, 48, 127, 255, 511, 1023]
theorem spec_Unpack.tab34 : rtab .any (opsOf Try.f17 34) = spec_Unpack.T34 := by kernel_rfl
theorem spec_Unpack.bits34 : waitsOk spec_Unpack.T34.2 spec_Unpack.B34 = true := by kernel_rfl
theorem spec_Unpack.calls (k : Nat) (A0 : Option Addr) (c0 : Nat) (l0 : List Int) (r1 : Int) (r2 : Int) (r3 : Int) (r4 : Int) (r5 : Int) (r6 : Int) (r7 : Int) (r8 : ByteArray) (r9 : Int) (w : World) (hr0 : Kd.C (Kd.int .u8) w A0 l0.length l0) (hc0 : l0.length ≤ c0) (h : spec_Unpack.f k l0 = some (r1, r2, r3, r4, r5, r6, r7, r8, r9)) :
  Calls Try.prog 17 #[.slice A0 l0.length c0] w fun e w' => e = .returned (.tuple #[.agg #[.int .i64 r1, .int .i64 r2, .int .i64 r3, .int .i64 r4, .int .i64 r5, .int .i64 r6, .int .i64 r7, .string r8], .int .i64 r9]) ∧ Below w.heap.size w w' := by
 have hu32 := Try.underlying32
 have hu30 := Try.underlying30
 have HR0 := zM hr0
 have HC0 := zM hc0
 clear hr0 hc0
 have HB := zM (Below.refl w.heap.size w)
 have H : (if (l0.length : Int) < 2 then (some (0, 0, 0, 0, 0, 0, 0, (⟨#[]⟩ : ByteArray), 1)) else (spec_Unpack.j0 k l0 0 0 0 0 0 0 0 (⟨#[]⟩ : ByteArray))) = some (r1, r2, r3, r4, r5, r6, r7, r8, r9) := h
 clear h
 have HC2 := zM H
 clear H
 go_enter Try.func17, Try.ntmps17
 go_upto_if 18 with (first | ((with_reducible refine gate_dst (N := 2) rfl ?_); refine box_event ?hg (N := 2) ?hd (cs := #[.int .i64 0, .int .i64 0, .int .i64 0, .int .i64 0, .int .i64 0, .int .i64 0, .int .i64 0, .string (⟨#[]⟩ : ByteArray)]) (t := 32) ?hr ?_; (case hd => rfl); (case hg => rfl); (case hr => first | (go_simp; done) | (go_simp; rfl)); intro gb118 hg w3 hbox hb; have n0_ := zM (bG (by repeat (first | (with_reducible first | exact HB.out | apply bE | apply bD | apply bF) | exact HB.out)) hb); have n1_ := zM (hbox); have n2_ := zM ((by rw [hg]; exact (below_size (by repeat (first | (with_reducible first | exact HB.out | apply bE | apply bD | apply bF) | exact HB.out))) : w.heap.size ≤ gb118)); have n3_ := zM ((by rw [hg]; exact (below_size (by repeat (first | (with_reducible first | exact HB.out | apply bE | apply bD | apply bF) | exact HB.out))) : w.heap.size ≤ gb118)); clear HB; have HB := n0_; have BK118 := n1_; have GW118 := n2_; have GE118 := n3_; clear n0_ n1_ n2_ n3_; clear hb hbox hg) | ((with_reducible refine gate_dst (N := 4) rfl ?_); refine box_event ?hg (N := 4) ?hd (cs := #[.int .i64 0, .int .i64 0, .int .i64 0, .int .i64 0, .int .i64 0, .int .i64 0, .int .i64 0, .string (⟨#[]⟩ : ByteArray)]) (t := 32) ?hr ?_; (case hd => rfl); (case hg => rfl); (case hr => first | (go_simp; done) | (go_simp; rfl)); intro gb119 hg w4 hbox hb; have n0_ := zM (blk_below (g := gb118) (o := .cells #[.int .i64 0, .int .i64 0, .int .i64 0, .int .i64 0, .int .i64 0, .int .i64 0, .int .i64 0, .string (⟨#[]⟩ : ByteArray)] 32 (0, 0)) (by (with_reducible repeat (first | refine bA ?_ _ | refine bB ?_ | refine bC ?_ _)); exact BK118.out) hb); have n1_ := zM (bG (by repeat (first | (with_reducible first | exact HB.out | apply bE | apply bD | apply bF | refine below_set ?_ GE118.out) | exact HB.out)) hb); have n2_ := zM (hbox); have n3_ := zM ((by rw [hg]; exact (below_size (by repeat (first | (with_reducible first | exact HB.out | apply bE | apply bD | apply bF | refine below_set ?_ GE118.out) | exact HB.out))) : w.heap.size ≤ gb119)); have n4_ := zM ((by rw [hg]; exact (below_size (by repeat (first | (with_reducible first | exact HB.out | apply bE | apply bD | apply bF | refine below_set ?_ GE118.out) | exact HB.out))) : w.heap.size ≤ gb119)); have n5_ := zM ((by rw [hg]; exact Nat.ne_of_lt (blk_lt (g := gb118) (o := .cells #[.int .i64 0, .int .i64 0, .int .i64 0, .int .i64 0, .int .i64 0, .int .i64 0, .int .i64 0, .string (⟨#[]⟩ : ByteArray)] 32 (0, 0)) (by (with_reducible repeat (first | refine bA ?_ _ | refine bB ?_ | refine bC ?_ _)); exact BK118.out)) : gb118 ≠ gb119)); have n6_ := zM ((by rw [hg]; exact Nat.ne_of_gt (blk_lt (g := gb118) (o := .cells #[.int .i64 0, .int .i64 0, .int .i64 0, .int .i64 0, .int .i64 0, .int .i64 0, .int .i64 0, .string (⟨#[]⟩ : ByteArray)] 32 (0, 0)) (by (with_reducible repeat (first | refine bA ?_ _ | refine bB ?_ | refine bC ?_ _)); exact BK118.out)) : gb119 ≠ gb118)); clear BK118; clear HB; have BK118 := n0_; have HB := n1_; have BK119 := n2_; have GW119 := n3_; have GE119 := n4_; have NB118_119 := n5_; have NB119_118 := n6_; clear n0_ n1_ n2_ n3_ n4_ n5_ n6_; clear hb hbox hg; have hnb5 := NB119_118.out; have hnc5 := NB118_119.out; have hcz6_0 : w4.cell? ⟨gb119, 0, none⟩ = some (.int .i64 0) := (blk_cell BK119.out 0).trans rfl; have hcz6_1 : w4.cell? ⟨gb119, 1, none⟩ = some (.int .i64 0) := (blk_cell BK119.out 1).trans rfl; have hcz6_2 : w4.cell? ⟨gb119, 2, none⟩ = some (.int .i64 0) := (blk_cell BK119.out 2).trans rfl; have hcz6_3 : w4.cell? ⟨gb119, 3, none⟩ = some (.int .i64 0) := (blk_cell BK119.out 3).trans rfl; have hcz6_4 : w4.cell? ⟨gb119, 4, none⟩ = some (.int .i64 0) := (blk_cell BK119.out 4).trans rfl; have hcz6_5 : w4.cell? ⟨gb119, 5, none⟩ = some (.int .i64 0) := (blk_cell BK119.out 5).trans rfl; have hcz6_6 : w4.cell? ⟨gb119, 6, none⟩ = some (.int .i64 0) := (blk_cell BK119.out 6).trans rfl; have hcz6_7 : w4.cell? ⟨gb119, 7, none⟩ = some (.string (⟨#[]⟩ : ByteArray)) := (blk_cell BK119.out 7).trans rfl; have hfz6_0 := blk_frozen BK119.out 0; have hfz6_1 := blk_frozen BK119.out 1; have hfz6_2 := blk_frozen BK119.out 2; have hfz6_3 := blk_frozen BK119.out 3; have hfz6_4 := blk_frozen BK119.out 4; have hfz6_5 := blk_frozen BK119.out 5; have hfz6_6 := blk_frozen BK119.out 6; have hfz6_7 := blk_frozen BK119.out 7))
 (try simp only [Act.put, zS, z0, z1])
 go_cut [] (fun wc => ∃ (kq : Nat) (x119000_1 : Int) (x119001_1 : Int) (x119002_1 : Int) (x119003_1 : Int) (x119004_1 : Int) (x119005_1 : Int) (x119006_1 : Int) (x119007_1 : ByteArray), Aside0 (spec_Unpack.j0 kq l0 0 0 0 0 0 0 0 (⟨#[]⟩ : ByteArray) = some (r1, r2, r3, r4, r5, r6, r7, r8, r9)) ∧ Aside0 (kq ≤ k) ∧ Aside0 (wc.heap[gb118]? = some (.cells #[.int .i64 x119000_1, .int .i64 x119001_1, .int .i64 x119002_1, .int .i64 x119003_1, .int .i64 x119004_1, .int .i64 x119005_1, .int .i64 x119006_1, .string x119007_1] 32 (0, 0))) ∧ Aside0 (wc.heap[gb119]? = some (.cells #[.int .i64 0, .int .i64 0, .int .i64 0, .int .i64 0, .int .i64 0, .int .i64 0, .int .i64 0, .string (⟨#[]⟩ : ByteArray)] 32 (0, 0))) ∧ Aside0 (Below w.heap.size w wc))
 case first =>
  have H := HC2.out
  clear HC2
  by_cases c7 : (l0.length : Int) < 2
  ·rw [if_pos c7] at H
   have c7b0 : decide ((l0.length : Int) < 2) = true := decide_eq_true c7
   have c7b1 : decide (l0.length < 2) = true := decide_eq_true (by omega)
   clear c7
   (first | rw [c7b0] | (simp only [i64_w, i32_w]; rw [c7b0]) | skip)
   simp only [zI, zJ] at H
   obtain ⟨rfl, rfl, rfl, rfl, rfl, rfl, rfl, rfl, rfl⟩ := H
   have hnb8 := NB119_118.out
   have hnc8 := NB118_119.out
   have hcz9_0 : w4.cell? ⟨gb119, 0, none⟩ = some (.int .i64 0) := (blk_cell BK119.out 0).trans rfl
   have hcz9_1 : w4.cell? ⟨gb119, 1, none⟩ = some (.int .i64 0) := (blk_cell BK119.out 1).trans rfl
   have hcz9_2 : w4.cell? ⟨gb119, 2, none⟩ = some (.int .i64 0) := (blk_cell BK119.out 2).trans rfl
   have hcz9_3 : w4.cell? ⟨gb119, 3, none⟩ = some (.int .i64 0) := (blk_cell BK119.out 3).trans rfl
   have hcz9_4 : w4.cell? ⟨gb119, 4, none⟩ = some (.int .i64 0) := (blk_cell BK119.out 4).trans rfl
   have hcz9_5 : w4.cell? ⟨gb119, 5, none⟩ = some (.int .i64 0) := (blk_cell BK119.out 5).trans rfl
   have hcz9_6 : w4.cell? ⟨gb119, 6, none⟩ = some (.int .i64 0) := (blk_cell BK119.out 6).trans rfl
   have hcz9_7 : w4.cell? ⟨gb119, 7, none⟩ = some (.string (⟨#[]⟩ : ByteArray)) := (blk_cell BK119.out 7).trans rfl
   have hfz9_0 := blk_frozen BK119.out 0
   have hfz9_1 := blk_frozen BK119.out 1
   have hfz9_2 := blk_frozen BK119.out 2
   have hfz9_3 := blk_frozen BK119.out 3
   have hfz9_4 := blk_frozen BK119.out 4
   have hfz9_5 := blk_frozen BK119.out 5
   have hfz9_6 := blk_frozen BK119.out 6
   have hfz9_7 := blk_frozen BK119.out 7
   have hcz10_0 : w4.cell? ⟨gb118, 0, none⟩ = some (.int .i64 0) := (blk_cell BK118.out 0).trans rfl
   have hcz10_1 : w4.cell? ⟨gb118, 1, none⟩ = some (.int .i64 0) := (blk_cell BK118.out 1).trans rfl
   have hcz10_2 : w4.cell? ⟨gb118, 2, none⟩ = some (.int .i64 0) := (blk_cell BK118.out 2).trans rfl
   have hcz10_3 : w4.cell? ⟨gb118, 3, none⟩ = some (.int .i64 0) := (blk_cell BK118.out 3).trans rfl
   have hcz10_4 : w4.cell? ⟨gb118, 4, none⟩ = some (.int .i64 0) := (blk_cell BK118.out 4).trans rfl
   have hcz10_5 : w4.cell? ⟨gb118, 5, none⟩ = some (.int .i64 0) := (blk_cell BK118.out 5).trans rfl
   have hcz10_6 : w4.cell? ⟨gb118, 6, none⟩ = some (.int .i64 0) := (blk_cell BK118.out 6).trans rfl
   have hcz10_7 : w4.cell? ⟨gb118, 7, none⟩ = some (.string (⟨#[]⟩ : ByteArray)) := (blk_cell BK118.out 7).trans rfl
   have hfz10_0 := blk_frozen BK118.out 0
   have hfz10_1 := blk_frozen BK118.out 1
   have hfz10_2 := blk_frozen BK118.out 2
   have hfz10_3 := blk_frozen BK118.out 3
   have hfz10_4 := blk_frozen BK118.out 4
   have hfz10_5 := blk_frozen BK118.out 5
   have hfz10_6 := blk_frozen BK118.out 6
   have hfz10_7 := blk_frozen BK118.out 7
   go_wp2
   refine bodyPost_ret (results_ct rfl _ _ gb118 32 #[.int .i64 0, .int .i64 0, .int .i64 0, .int .i64 0, .int .i64 0, .int .i64 0, .int .i64 0, .string (⟨#[]⟩ : ByteArray)] (0, 0) _ rfl (by (with_reducible repeat (first | refine bA ?_ _ | refine bB ?_ | refine bC ?_ _)); refine bH (cs := #[.int .i64 0, .int .i64 0, .int .i64 0, .int .i64 0, .int .i64 0, .int .i64 0, .int .i64 0, .string (⟨#[]⟩ : ByteArray)]) ?_ 7 _ rfl; (with_reducible repeat (first | refine bA ?_ _ | refine bB ?_ | refine bC ?_ _)); refine bH (cs := #[.int .i64 0, .int .i64 0, .int .i64 0, .int .i64 0, .int .i64 0, .int .i64 0, .int .i64 0, .string (⟨#[]⟩ : ByteArray)]) ?_ 6 _ rfl; (with_reducible repeat (first | refine bA ?_ _ | refine bB ?_ | refine bC ?_ _)); refine bH (cs := #[.int .i64 0, .int .i64 0, .int .i64 0, .int .i64 0, .int .i64 0, .int .i64 0, .int .i64 0, .string (⟨#[]⟩ : ByteArray)]) ?_ 5 _ rfl; (with_reducible repeat (first | refine bA ?_ _ | refine bB ?_ | refine bC ?_ _)); refine bH (cs := #[.int .i64 0, .int .i64 0, .int .i64 0, .int .i64 0, .int .i64 0, .int .i64 0, .int .i64 0, .string (⟨#[]⟩ : ByteArray)]) ?_ 4 _ rfl; (with_reducible repeat (first | refine bA ?_ _ | refine bB ?_ | refine bC ?_ _)); refine bH (cs := #[.int .i64 0, .int .i64 0, .int .i64 0, .int .i64 0, .int .i64 0, .int .i64 0, .int .i64 0, .string (⟨#[]⟩ : ByteArray)]) ?_ 3 _ rfl; (with_reducible repeat (first | refine bA ?_ _ | refine bB ?_ | refine bC ?_ _)); refine bH (cs := #[.int .i64 0, .int .i64 0, .int .i64 0, .int .i64 0, .int .i64 0, .int .i64 0, .int .i64 0, .string (⟨#[]⟩ : ByteArray)]) ?_ 2 _ rfl; (with_reducible repeat (first | refine bA ?_ _ | refine bB ?_ | refine bC ?_ _)); refine bH (cs := #[.int .i64 0, .int .i64 0, .int .i64 0, .int .i64 0, .int .i64 0, .int .i64 0, .int .i64 0, .string (⟨#[]⟩ : ByteArray)]) ?_ 1 _ rfl; (with_reducible repeat (first | refine bA ?_ _ | refine bB ?_ | refine bC ?_ _)); refine bH (cs := #[.int .i64 0, .int .i64 0, .int .i64 0, .int .i64 0, .int .i64 0, .int .i64 0, .int .i64 0, .string (⟨#[]⟩ : ByteArray)]) ?_ 0 _ rfl; (with_reducible repeat (first | refine bA ?_ _ | refine bB ?_ | refine bC ?_ _)); refine blk_far ?_ NB118_119.out _; (with_reducible repeat (first | refine bA ?_ _ | refine bB ?_ | refine bC ?_ _)); refine blk_far ?_ NB118_119.out _; (with_reducible repeat (first | refine bA ?_ _ | refine bB ?_ | refine bC ?_ _)); refine blk_far ?_ NB118_119.out _; (with_reducible repeat (first | refine bA ?_ _ | refine bB ?_ | refine bC ?_ _)); refine blk_far ?_ NB118_119.out _; (with_reducible repeat (first | refine bA ?_ _ | refine bB ?_ | refine bC ?_ _)); refine blk_far ?_ NB118_119.out _; (with_reducible repeat (first | refine bA ?_ _ | refine bB ?_ | refine bC ?_ _)); refine blk_far ?_ NB118_119.out _; (with_reducible repeat (first | refine bA ?_ _ | refine bB ?_ | refine bC ?_ _)); refine blk_far ?_ NB118_119.out _; (with_reducible repeat (first | refine bA ?_ _ | refine bB ?_ | refine bC ?_ _)); refine blk_far ?_ NB118_119.out _; (with_reducible repeat (first | refine bA ?_ _ | refine bB ?_ | refine bC ?_ _)); exact BK118.out) Try.underlying32 rfl (by kernel_rfl)) rfl ?_
   exact ⟨by first | rfl | (simp [*, errW_none, errW_some] <;> rfl), by repeat (first | (with_reducible first | exact HB.out | apply bE | apply bD | apply bF | refine below_set ?_ GE118.out | refine below_set ?_ GE119.out) | exact HB.out)⟩
  ·rw [if_neg c7] at H
   have c7b0 : decide ((l0.length : Int) < 2) = false := decide_eq_false c7
   have c7b1 : decide (l0.length < 2) = false := decide_eq_false (by omega)
   clear c7
   (first | rw [c7b0] | (simp only [i64_w, i32_w]; rw [c7b0]) | skip)
   have H' := zM H
   clear H
   go_wp2
   go_meet
   case rel => exact ⟨_, (0), (0), (0), (0), (0), (0), (0), ((⟨#[]⟩ : ByteArray)), H', ⟨by first | omega | exact Nat.le_refl _⟩, ⟨by (with_reducible repeat (first | refine bA ?_ _ | refine bB ?_ | refine bC ?_ _)); refine blk_far ?_ NB118_119.out _; (with_reducible repeat (first | refine bA ?_ _ | refine bB ?_ | refine bC ?_ _)); refine blk_far ?_ NB118_119.out _; (with_reducible repeat (first | refine bA ?_ _ | refine bB ?_ | refine bC ?_ _)); refine blk_far ?_ NB118_119.out _; (with_reducible repeat (first | refine bA ?_ _ | refine bB ?_ | refine bC ?_ _)); refine blk_far ?_ NB118_119.out _; (with_reducible repeat (first | refine bA ?_ _ | refine bB ?_ | refine bC ?_ _)); refine blk_far ?_ NB118_119.out _; (with_reducible repeat (first | refine bA ?_ _ | refine bB ?_ | refine bC ?_ _)); refine blk_far ?_ NB118_119.out _; (with_reducible repeat (first | refine bA ?_ _ | refine bB ?_ | refine bC ?_ _)); refine blk_far ?_ NB118_119.out _; (with_reducible repeat (first | refine bA ?_ _ | refine bB ?_ | refine bC ?_ _)); refine blk_far ?_ NB118_119.out _; (with_reducible repeat (first | refine bA ?_ _ | refine bB ?_ | refine bC ?_ _)); exact BK118.out⟩, ⟨by (with_reducible repeat (first | refine bA ?_ _ | refine bB ?_ | refine bC ?_ _)); refine bH (cs := #[.int .i64 0, .int .i64 0, .int .i64 0, .int .i64 0, .int .i64 0, .int .i64 0, .int .i64 0, .string (⟨#[]⟩ : ByteArray)]) ?_ 7 _ rfl; (with_reducible repeat (first | refine bA ?_ _ | refine bB ?_ | refine bC ?_ _)); refine bH (cs := #[.int .i64 0, .int .i64 0, .int .i64 0, .int .i64 0, .int .i64 0, .int .i64 0, .int .i64 0, .string (⟨#[]⟩ : ByteArray)]) ?_ 6 _ rfl; (with_reducible repeat (first | refine bA ?_ _ | refine bB ?_ | refine bC ?_ _)); refine bH (cs := #[.int .i64 0, .int .i64 0, .int .i64 0, .int .i64 0, .int .i64 0, .int .i64 0, .int .i64 0, .string (⟨#[]⟩ : ByteArray)]) ?_ 5 _ rfl; (with_reducible repeat (first | refine bA ?_ _ | refine bB ?_ | refine bC ?_ _)); refine bH (cs := #[.int .i64 0, .int .i64 0, .int .i64 0, .int .i64 0, .int .i64 0, .int .i64 0, .int .i64 0, .string (⟨#[]⟩ : ByteArray)]) ?_ 4 _ rfl; (with_reducible repeat (first | refine bA ?_ _ | refine bB ?_ | refine bC ?_ _)); refine bH (cs := #[.int .i64 0, .int .i64 0, .int .i64 0, .int .i64 0, .int .i64 0, .int .i64 0, .int .i64 0, .string (⟨#[]⟩ : ByteArray)]) ?_ 3 _ rfl; (with_reducible repeat (first | refine bA ?_ _ | refine bB ?_ | refine bC ?_ _)); refine bH (cs := #[.int .i64 0, .int .i64 0, .int .i64 0, .int .i64 0, .int .i64 0, .int .i64 0, .int .i64 0, .string (⟨#[]⟩ : ByteArray)]) ?_ 2 _ rfl; (with_reducible repeat (first | refine bA ?_ _ | refine bB ?_ | refine bC ?_ _)); refine bH (cs := #[.int .i64 0, .int .i64 0, .int .i64 0, .int .i64 0, .int .i64 0, .int .i64 0, .int .i64 0, .string (⟨#[]⟩ : ByteArray)]) ?_ 1 _ rfl; (with_reducible repeat (first | refine bA ?_ _ | refine bB ?_ | refine bC ?_ _)); refine bH (cs := #[.int .i64 0, .int .i64 0, .int .i64 0, .int .i64 0, .int .i64 0, .int .i64 0, .int .i64 0, .string (⟨#[]⟩ : ByteArray)]) ?_ 0 _ rfl; (with_reducible repeat (first | refine bA ?_ _ | refine bB ?_ | refine bC ?_ _)); exact BK119.out⟩, ⟨by repeat (first | (with_reducible first | exact HB.out | apply bE | apply bD | apply bF | refine below_set ?_ GE118.out | refine below_set ?_ GE119.out) | exact HB.out)⟩⟩
 case rest =>
  clear HC2
  try clear c1
  try clear p2
  try clear c5
  try clear c7
  try clear c7b0
  try clear c7b1
  try clear c8
  try clear hcz10_0
  try clear hcz10_1
  try clear hcz10_2
  try clear hcz10_3
  try clear hcz10_4
  try clear hcz10_5
  try clear hcz10_6
  try clear hcz10_7
  try clear hcz6_0
  try clear hcz6_1
  try clear hcz6_2
  try clear hcz6_3
  try clear hcz6_4
  try clear hcz6_5
  try clear hcz6_6
  try clear hcz6_7
  try clear hcz9_0
  try clear hcz9_1
  try clear hcz9_2
  try clear hcz9_3
  try clear hcz9_4
  try clear hcz9_5
  try clear hcz9_6
  try clear hcz9_7
  try clear hfz10_0
  try clear hfz10_1
  try clear hfz10_2
  try clear hfz10_3
  try clear hfz10_4
  try clear hfz10_5
  try clear hfz10_6
  try clear hfz10_7
  try clear hfz6_0
  try clear hfz6_1
  try clear hfz6_2
  try clear hfz6_3
  try clear hfz6_4
  try clear hfz6_5
  try clear hfz6_6
  try clear hfz6_7
  try clear hfz9_0
  try clear hfz9_1
  try clear hfz9_2
  try clear hfz9_3
  try clear hfz9_4
  try clear hfz9_5
  try clear hfz9_6
  try clear hfz9_7
  obtain ⟨kq, x119000_1, x119001_1, x119002_1, x119003_1, x119004_1, x119005_1, x119006_1, x119007_1, HA, HJ1, BK118, BK119, HB⟩ := hcut
  cases kq with
  | zero => exact absurd HA.out (by simp [spec_Unpack.j0])
  | succ kj1 =>
   have H := HA.out
   clear HA
   simp only [spec_Unpack.j0] at H
   obtain ⟨ji11, hji11⟩ : ∃ j_ : Int, (wrap64 ((l0.length : Int) - 1)) = j_ := ⟨_, rfl⟩
   replace H : (if 0 ≤ (ji11) then (if (ji11) ≤ (l0.length : Int) then ((spec_Check8.f kj1 (l0.take ((ji11) : Int).toNat)).bind fun t121 => (if (ji11) < (l0.length : Int) then (if t121 = (wrap64 (rd l0 (ji11))) then (spec_Unpack.j1 kj1 (l0.take ((ji11) : Int).toNat) 0 0 0 0 0 0 0 (⟨#[]⟩ : ByteArray)) else (some (0, 0, 0, 0, 0, 0, 0, (⟨#[]⟩ : ByteArray), 2))) else (none))) else (none)) else (none)) = some (r1, r2, r3, r4, r5, r6, r7, r8, r9) := by first | (rw [hji11] at H; exact H) | (simp only [hji11] at H ⊢; exact H)
   have hji11w : (IntKind.i64.wrap ((l0.length : Int) - 1)) = ji11 := (i64_w _).trans hji11
   by_cases c12 : 0 ≤ (ji11)
   ·rw [if_pos c12] at H
    have c12b0 := eq_true c12
    have c12b1 : decide (0 ≤ (ji11)) = true := decide_eq_true c12
    clear c12
    by_cases c13 : (ji11) ≤ (l0.length : Int)
    ·rw [if_pos c13] at H
     have c13b0 := eq_true c13
     have c13b1 : decide ((ji11) ≤ (l0.length : Int)) = true := decide_eq_true c13
     clear c13
     replace H := zO H
     obtain ⟨t121, A140, H⟩ := H
     replace H : (if (ji11) < (l0.length : Int) then (if t121 = (wrap64 (rd l0 (ji11))) then (spec_Unpack.j1 kj1 (l0.take ((ji11) : Int).toNat) 0 0 0 0 0 0 0 (⟨#[]⟩ : ByteArray)) else (some (0, 0, 0, 0, 0, 0, 0, (⟨#[]⟩ : ByteArray), 2))) else (none)) = some (r1, r2, r3, r4, r5, r6, r7, r8, r9) := H
     have A14 := zM A140
     clear A140
     by_cases c15 : (ji11) < (l0.length : Int)
     ·rw [if_pos c15] at H
      have c15b0 : decide ((ji11) < (l0.length : Int)) = true := decide_eq_true c15
      clear c15
      have HC16 := zM H
      clear H
      obtain ⟨i017, hi017, _, hsz17, _⟩ := info_parts info5
      obtain ⟨hcut17, hA17, hC17⟩ := print_take_of (P := Try.prog) (Value.int .u8) 0 27 5 .i64 Try.underlying27 hi017 hsz17 A0 c0 l0 (ji11) (of_decide_eq_true (by first | (with_reducible assumption) | assumption)) (of_decide_eq_true (by first | (with_reducible assumption) | assumption)) HC0.out
      have HZ_ji11_l0 : Aside0 (((ji11) : Int) ≤ (l0.length : Int)) := ⟨of_decide_eq_true (by first | (with_reducible assumption) | assumption)⟩
      have HR120 := zM (Kd.C_of_reads (h1 := fun _ => rfl) (hA17 _ (Kd.reads_of_C HR0.out)))
      have HC120 := zM hC17
      clear hA17 hC17 hi017 hsz17
      obtain ⟨yy17, hyy17⟩ : ∃ y_ : List Int, y_ = (l0.take ((ji11) : Int).toNat) := ⟨_, rfl⟩
      rw [← hyy17] at hcut17
      (try rw [← hyy17] at HR0)
      (try rw [← hyy17] at HC0)
      (try rw [← hyy17] at HC2)
      (try rw [← hyy17] at H')
      (try rw [← hyy17] at A14)
      (try rw [← hyy17] at HC16)
      (try rw [← hyy17] at HR120)
      (try rw [← hyy17] at HC120)
      have Nyy17 := zM hyy17
      clear hyy17
      try go_wp2
      have n0_ := zM (bB BK118.out)
      have n1_ := zM (bB BK119.out)
      have n2_ := zM (bF HB.out)
      clear BK118
      clear BK119
      clear HB
      have BK118 := n0_
      have BK119 := n1_
      have HB := n2_
      clear n0_ n1_ n2_
      have p122 : 0 ≤ ((ji11) : Int) := of_decide_eq_true (by first | (with_reducible assumption) | assumption)
      have q122 : (ji11) < (l0.length : Int) := of_decide_eq_true (by first | (with_reducible assumption) | assumption)
      obtain ⟨ad122, e122, hx122_0⟩ := Kd.at_int HR0.out (ji11) p122 q122
      have hw122_0 := hx122_0
      cases e122
      replace hx122_0 := (HB.out.cell (World.block_lt_of_cell? w _ hx122_0)).trans hx122_0
      replace p122 := eq_true p122
      replace q122 := eq_true q122
      (try (have q122d := q122; simp only [List.length_drop] at q122d))
      (try (have q122e := of_eq_true q122; rw [List.length_take] at q122e; replace q122e := Int.lt_of_lt_of_le q122e (Int.ofNat_le.mpr (Nat.min_le_left _ _)); rw [Int.ofNat_toNat] at q122e; have q122g := eq_false (Int.not_le.mpr q122e); replace q122e := eq_true q122e))
      refine start_ (n := 10) (S := fun w' => w'.cell? (ad122.add ((ji11)).toNat) = some (.int .u8 (rd l0 (ji11)))) (ds := []) #[false, false, false, false, false, false, false, false, false, false] (by kernel_rfl) rfl rfl (((HB.out.cell (World.block_lt_of_cell? w _ hw122_0)).trans hw122_0)) (fun hHeld => ?_); refine with_tabW spec_Unpack.tab5 spec_Unpack.bits5 (fun HT_ HW_ => ?_)
      generalize wc.drew = w18 at BK118 BK119 HB hx122_0 hHeld ⊢
      refine pure_ (i := 0) (N := some 25) (v := ?_) (a' := ?_) #[true, false, false, false, false, false, false, false, false, false] rfl rfl (any_of HT_.out (by kernel_rfl)) (fun _ _ _ h => h) (Or.inl ⟨by rfl, ?_⟩) ?_ ?_
      rotate_left
      ·intro w'
       go_simp
       with_reducible rfl
      rotate_left
      ·simp only [Act.put, zS, z0, z1, i64_w, i32_w]
       rfl
      refine pure_ (i := 2) (N := some 27) (v := ?_) (a' := ?_) #[true, false, true, false, false, false, false, false, false, false] rfl rfl (any_of HT_.out (by kernel_rfl)) (fun _ _ _ h => h) (Or.inl ⟨by rfl, ?_⟩) ?_ ?_
      rotate_left
      ·intro w'
       go_simp
       with_reducible rfl
      rotate_left
      ·simp only [Act.put, zS, z0, z1, i64_w, i32_w]
       rfl
      refine pure_ (i := 3) (N := some 28) (v := ?_) (a' := ?_) #[true, false, true, true, false, false, false, false, false, false] rfl rfl (any_of HT_.out (by kernel_rfl)) (fun _ _ _ h => h) (Or.inl ⟨by rfl, ?_⟩) ?_ ?_
      rotate_left
      ·intro w'
       go_simp
       with_reducible rfl
      rotate_left
      ·simp only [Act.put, zS, z0, z1, i64_w, i32_w]
       rfl
      refine pure_ (i := 4) (N := some 29) (v := ?_) (a' := ?_) #[true, false, true, true, true, false, false, false, false, false] rfl rfl (any_of HT_.out (by kernel_rfl)) (fun _ _ _ h => h) (Or.inl ⟨by rfl, ?_⟩) ?_ ?_
      rotate_left
      ·intro w'
       go_simp
       with_reducible rfl
      rotate_left
      ·simp only [Act.put, zS, z0, z1, i64_w, i32_w]
       rfl
      refine pure_ (i := 5) (N := some 30) (v := ?_) (a' := ?_) #[true, false, true, true, true, true, false, false, false, false] rfl rfl (any_of HT_.out (by kernel_rfl)) (fun _ _ _ h => h) (Or.inl ⟨by rfl, ?_⟩) ?_ ?_
      rotate_left
      ·intro w'
       go_simp
       with_reducible rfl
      rotate_left
      ·simp only [Act.put, zS, z0, z1, i64_w, i32_w]
       rfl
      refine pure_ (i := 6) (N := some 31) (v := ?_) (a' := ?_) #[true, false, true, true, true, true, true, false, false, false] rfl rfl (any_of HT_.out (by kernel_rfl)) (fun _ _ _ h => h) (Or.inl ⟨by rfl, ?_⟩) ?_ ?_
      rotate_left
      ·intro w'
       go_simp
       with_reducible rfl
      rotate_left
      ·simp only [Act.put, zS, z0, z1, i64_w, i32_w]
       rfl
      refine take_ (i := 7) (N := some 32) (v := ?_) (a' := ?_) #[true, false, true, true, true, true, true, true, false, false] rfl rfl (take_ofW HT_.out HW_.out (by kernel_rfl)) (fun _ _ _ h => h) (Or.inl ⟨by rfl, ?_⟩) hHeld ?_ ?_
      rotate_left
      ·intro w' s0
       go_simp
       with_reducible rfl
      rotate_left
      ·simp only [Act.put, zS, z0, z1, i64_w, i32_w]
       rfl
      refine pure_ (i := 8) (N := some 33) (v := ?_) (a' := ?_) #[true, false, true, true, true, true, true, true, true, false] rfl rfl (any_of HT_.out (by kernel_rfl)) (fun _ _ _ h => h) (Or.inl ⟨by rfl, ?_⟩) ?_ ?_
      rotate_left
      ·intro w'
       go_simp
       with_reducible rfl
      rotate_left
      ·simp only [Act.put, zS, z0, z1, i64_w, i32_w]
       rfl
      refine one_ (i := 1) (N := some 26) #[true, true, true, true, true, true, true, true, true, false] rfl rfl (one_of HT_.out (by kernel_rfl)) (by decide) (fun K hK => ?_)
      refine goes_ Try.func40 (by kernel_rfl) rfl #[.slice (some ad122) yy17.length c0] (by rfl) rfl rfl (by (try simp only [List.map_toArray, List.map_cons, List.map_nil]); first | done | (rw [show yy17.length = (ji11).toNat from (by rw [List.length_take]; have h_ : ((ji11) : Int) ≤ (l0.length : Int) := (by first | exact HZ_ji11_l0.out | exact of_decide_eq_true (by first | (with_reducible assumption) | assumption)); omega)] <;> rfl) | (simp only [hji11]; rfl) | rfl | (simp only [List.length_drop, List.length_take]; rfl)) ?_
      with_reducible refine (spec_Check8.calls kj1 _ _ yy17 t121 _ ?side1 ?side2 A14.out).mono ?_
      (case side1 => repeat (first | exact (Kd.C_below HR120.out HB.out) | (with_reducible refine Kd.C_alloc ?_ _) | (with_reducible refine Kd.C_drewN ?_ _) | (with_reducible refine Kd.C_drew ?_)))
      (case side2 => exact HC120.out)
      rintro e w' ⟨rfl, ⟨nd, rfl⟩⟩
      refine ⟨_, rfl, ?_⟩
      refine hK.out _ _ (((HB.out.cell (World.block_lt_of_cell? w _ hw122_0)).trans hw122_0)) (fun hHeld => ?_)
      clear hK K
      refine norm_ (a' := ?_) ?_ ?_
      rotate_left
      ·show Act.put _ (some 26) _ = _
       simp only [Act.put, zS, z0, z1, i64_w, i32_w]
       rfl
      refine pure_ (i := 9) (N := some 34) (v := ?_) (a' := ?_) #[true, true, true, true, true, true, true, true, true, true] rfl rfl (any_of HT_.out (by kernel_rfl)) (fun _ _ _ h => h) (Or.inl ⟨by rfl, ?_⟩) ?_ ?_
      rotate_left
      ·intro w'
       go_simp
       with_reducible rfl
      rotate_left
      ·simp only [Act.put, zS, z0, z1, i64_w, i32_w]
       rfl
      refine done_ (done_of HT_.out (by kernel_rfl)) ?_
      go_upto_if 34 with (fail)
      go_cut [] (fun wc => ∃ (kq : Nat) (x119000_15 : Int) (x119001_15 : Int) (x119002_15 : Int) (x119003_15 : Int) (x119004_15 : Int) (x119005_15 : Int) (x119006_15 : Int) (x119007_15 : ByteArray), Aside0 (spec_Unpack.j1 kq yy17 0 0 0 0 0 0 0 (⟨#[]⟩ : ByteArray) = some (r1, r2, r3, r4, r5, r6, r7, r8, r9)) ∧ Aside0 (kq ≤ kj1) ∧ Aside0 (wc.heap[gb118]? = some (.cells #[.int .i64 x119000_15, .int .i64 x119001_15, .int .i64 x119002_15, .int .i64 x119003_15, .int .i64 x119004_15, .int .i64 x119005_15, .int .i64 x119006_15, .string x119007_15] 32 (0, 0))) ∧ Aside0 (wc.heap[gb119]? = some (.cells #[.int .i64 0, .int .i64 0, .int .i64 0, .int .i64 0, .int .i64 0, .int .i64 0, .int .i64 0, .string (⟨#[]⟩ : ByteArray)] 32 (0, 0))) ∧ Aside0 (Below w.heap.size w wc))
      case first =>
       have H := HC16.out
       clear HC16
       by_cases c19 : t121 = (wrap64 (rd l0 (ji11)))
       ·rw [if_pos c19] at H
        have c19b0 : (t121 == (wrap64 (rd l0 (ji11)))) = true := beq_iff_eq.mpr c19
        have c19b1 : (t121 != (wrap64 (rd l0 (ji11)))) = false := bne_eq_false_iff_eq.mpr c19
        clear c19
        (first | rw [c19b0] | (simp only [i64_w, i32_w]; rw [c19b0]) | skip)
        have H' := zM H
        clear H
        go_wp2
        go_meet
        case rel => exact ⟨_, (x119000_1), (x119001_1), (x119002_1), (x119003_1), (x119004_1), (x119005_1), (x119006_1), (x119007_1), H', ⟨by have := HJ1.out; first | omega | exact Nat.le_refl _⟩, ⟨by (with_reducible repeat (first | refine bA ?_ _ | refine bB ?_ | refine bC ?_ _)); exact BK118.out⟩, ⟨by (with_reducible repeat (first | refine bA ?_ _ | refine bB ?_ | refine bC ?_ _)); exact BK119.out⟩, ⟨by repeat (first | (with_reducible first | exact HB.out | apply bE | apply bD | apply bF | refine below_set ?_ GE118.out | refine below_set ?_ GE119.out) | exact HB.out)⟩⟩
       ·rw [if_neg c19] at H
        have c19b0 : (t121 == (wrap64 (rd l0 (ji11)))) = false := beq_eq_false_iff_ne.mpr c19
        have c19b1 : (t121 != (wrap64 (rd l0 (ji11)))) = true := bne_iff_ne.mpr c19
        (first | rw [c19b0] | (simp only [i64_w, i32_w]; rw [c19b0]) | skip)
        simp only [zI, zJ] at H
        obtain ⟨rfl, rfl, rfl, rfl, rfl, rfl, rfl, rfl, rfl⟩ := H
        have hnb20 := NB119_118.out
        have hnc20 := NB118_119.out
        have hcz21_0 : w18.cell? ⟨gb119, 0, none⟩ = some (.int .i64 0) := (blk_cell BK119.out 0).trans rfl
        have hcz21_1 : w18.cell? ⟨gb119, 1, none⟩ = some (.int .i64 0) := (blk_cell BK119.out 1).trans rfl
        have hcz21_2 : w18.cell? ⟨gb119, 2, none⟩ = some (.int .i64 0) := (blk_cell BK119.out 2).trans rfl
        have hcz21_3 : w18.cell? ⟨gb119, 3, none⟩ = some (.int .i64 0) := (blk_cell BK119.out 3).trans rfl
        have hcz21_4 : w18.cell? ⟨gb119, 4, none⟩ = some (.int .i64 0) := (blk_cell BK119.out 4).trans rfl
        have hcz21_5 : w18.cell? ⟨gb119, 5, none⟩ = some (.int .i64 0) := (blk_cell BK119.out 5).trans rfl
        have hcz21_6 : w18.cell? ⟨gb119, 6, none⟩ = some (.int .i64 0) := (blk_cell BK119.out 6).trans rfl
        have hcz21_7 : w18.cell? ⟨gb119, 7, none⟩ = some (.string (⟨#[]⟩ : ByteArray)) := (blk_cell BK119.out 7).trans rfl
        have hfz21_0 := blk_frozen BK119.out 0
        have hfz21_1 := blk_frozen BK119.out 1
        have hfz21_2 := blk_frozen BK119.out 2
        have hfz21_3 := blk_frozen BK119.out 3
        have hfz21_4 := blk_frozen BK119.out 4
        have hfz21_5 := blk_frozen BK119.out 5
        have hfz21_6 := blk_frozen BK119.out 6
        have hfz21_7 := blk_frozen BK119.out 7
        have hcz22_0 : w18.cell? ⟨gb118, 0, none⟩ = some (.int .i64 x119000_1) := (blk_cell BK118.out 0).trans rfl
        have hcz22_1 : w18.cell? ⟨gb118, 1, none⟩ = some (.int .i64 x119001_1) := (blk_cell BK118.out 1).trans rfl
        have hcz22_2 : w18.cell? ⟨gb118, 2, none⟩ = some (.int .i64 x119002_1) := (blk_cell BK118.out 2).trans rfl
        have hcz22_3 : w18.cell? ⟨gb118, 3, none⟩ = some (.int .i64 x119003_1) := (blk_cell BK118.out 3).trans rfl
        have hcz22_4 : w18.cell? ⟨gb118, 4, none⟩ = some (.int .i64 x119004_1) := (blk_cell BK118.out 4).trans rfl
        have hcz22_5 : w18.cell? ⟨gb118, 5, none⟩ = some (.int .i64 x119005_1) := (blk_cell BK118.out 5).trans rfl
        have hcz22_6 : w18.cell? ⟨gb118, 6, none⟩ = some (.int .i64 x119006_1) := (blk_cell BK118.out 6).trans rfl
        have hcz22_7 : w18.cell? ⟨gb118, 7, none⟩ = some (.string x119007_1) := (blk_cell BK118.out 7).trans rfl
        have hfz22_0 := blk_frozen BK118.out 0
        have hfz22_1 := blk_frozen BK118.out 1
        have hfz22_2 := blk_frozen BK118.out 2
        have hfz22_3 := blk_frozen BK118.out 3
        have hfz22_4 := blk_frozen BK118.out 4
        have hfz22_5 := blk_frozen BK118.out 5
        have hfz22_6 := blk_frozen BK118.out 6
        have hfz22_7 := blk_frozen BK118.out 7
        go_wp2
        refine bodyPost_ret (results_ct rfl _ _ gb118 32 #[.int .i64 0, .int .i64 0, .int .i64 0, .int .i64 0, .int .i64 0, .int .i64 0, .int .i64 0, .string (⟨#[]⟩ : ByteArray)] (0, 0) _ rfl (by (with_reducible repeat (first | refine bA ?_ _ | refine bB ?_ | refine bC ?_ _)); refine bH (cs := #[.int .i64 0, .int .i64 0, .int .i64 0, .int .i64 0, .int .i64 0, .int .i64 0, .int .i64 0, .string x119007_1]) ?_ 7 _ rfl; (with_reducible repeat (first | refine bA ?_ _ | refine bB ?_ | refine bC ?_ _)); refine bH (cs := #[.int .i64 0, .int .i64 0, .int .i64 0, .int .i64 0, .int .i64 0, .int .i64 0, .int .i64 x119006_1, .string x119007_1]) ?_ 6 _ rfl; (with_reducible repeat (first | refine bA ?_ _ | refine bB ?_ | refine bC ?_ _)); refine bH (cs := #[.int .i64 0, .int .i64 0, .int .i64 0, .int .i64 0, .int .i64 0, .int .i64 x119005_1, .int .i64 x119006_1, .string x119007_1]) ?_ 5 _ rfl; (with_reducible repeat (first | refine bA ?_ _ | refine bB ?_ | refine bC ?_ _)); refine bH (cs := #[.int .i64 0, .int .i64 0, .int .i64 0, .int .i64 0, .int .i64 x119004_1, .int .i64 x119005_1, .int .i64 x119006_1, .string x119007_1]) ?_ 4 _ rfl; (with_reducible repeat (first | refine bA ?_ _ | refine bB ?_ | refine bC ?_ _)); refine bH (cs := #[.int .i64 0, .int .i64 0, .int .i64 0, .int .i64 x119003_1, .int .i64 x119004_1, .int .i64 x119005_1, .int .i64 x119006_1, .string x119007_1]) ?_ 3 _ rfl; (with_reducible repeat (first | refine bA ?_ _ | refine bB ?_ | refine bC ?_ _)); refine bH (cs := #[.int .i64 0, .int .i64 0, .int .i64 x119002_1, .int .i64 x119003_1, .int .i64 x119004_1, .int .i64 x119005_1, .int .i64 x119006_1, .string x119007_1]) ?_ 2 _ rfl; (with_reducible repeat (first | refine bA ?_ _ | refine bB ?_ | refine bC ?_ _)); refine bH (cs := #[.int .i64 0, .int .i64 x119001_1, .int .i64 x119002_1, .int .i64 x119003_1, .int .i64 x119004_1, .int .i64 x119005_1, .int .i64 x119006_1, .string x119007_1]) ?_ 1 _ rfl; (with_reducible repeat (first | refine bA ?_ _ | refine bB ?_ | refine bC ?_ _)); refine bH (cs := #[.int .i64 x119000_1, .int .i64 x119001_1, .int .i64 x119002_1, .int .i64 x119003_1, .int .i64 x119004_1, .int .i64 x119005_1, .int .i64 x119006_1, .string x119007_1]) ?_ 0 _ rfl; (with_reducible repeat (first | refine bA ?_ _ | refine bB ?_ | refine bC ?_ _)); exact BK118.out) Try.underlying32 rfl (by kernel_rfl)) rfl ?_
        exact ⟨by first | rfl | (simp only [← hji11]; first | rfl | (simp [errW_none, errW_some] <;> rfl)) | (simp [*, errW_none, errW_some] <;> rfl), by repeat (first | (with_reducible first | exact HB.out | apply bE | apply bD | apply bF | refine below_set ?_ GE118.out | refine below_set ?_ GE119.out) | exact HB.out)⟩
      case rest =>
       clear HC16
       try clear c1
       try clear p1
       try clear q1
       try clear hx1
       try clear c2
       try clear p2
       try clear c4
       try clear c5
       try clear p6
       try clear c7
       try clear c7b0
       try clear c7b1
       try clear c8
       try clear c12
       try clear c12b0
       try clear c12b1
       try clear p12
       try clear q12
       try clear hx12
       try clear c13
       try clear c13b0
       try clear c13b1
       try clear c15
       try clear c15b0
       try clear c17
       try clear c19
       try clear c19b0
       try clear c19b1
       try clear c20
       try clear hcz10_0
       try clear hcz10_1
       try clear hcz10_2
       try clear hcz10_3
       try clear hcz10_4
       try clear hcz10_5
       try clear hcz10_6
       try clear hcz10_7
       try clear hcz21_0
       try clear hcz21_1
       try clear hcz21_2
       try clear hcz21_3
       try clear hcz21_4
       try clear hcz21_5
       try clear hcz21_6
       try clear hcz21_7
       try clear hcz22_0
       try clear hcz22_1
       try clear hcz22_2
       try clear hcz22_3
       try clear hcz22_4
       try clear hcz22_5
       try clear hcz22_6
       try clear hcz22_7
       try clear hcz6_0
       try clear hcz6_1
       try clear hcz6_2
       try clear hcz6_3
       try clear hcz6_4
       try clear hcz6_5
       try clear hcz6_6
       try clear hcz6_7
       try clear hcz9_0
       try clear hcz9_1
       try clear hcz9_2
       try clear hcz9_3
       try clear hcz9_4
       try clear hcz9_5
       try clear hcz9_6
       try clear hcz9_7
       try clear hfz10_0
       try clear hfz10_1
       try clear hfz10_2
       try clear hfz10_3
       try clear hfz10_4
       try clear hfz10_5
       try clear hfz10_6
       try clear hfz10_7
       try clear hfz21_0
       try clear hfz21_1
       try clear hfz21_2
       try clear hfz21_3
       try clear hfz21_4
       try clear hfz21_5
       try clear hfz21_6
       try clear hfz21_7
       try clear hfz22_0
       try clear hfz22_1
       try clear hfz22_2
       try clear hfz22_3
       try clear hfz22_4
       try clear hfz22_5
       try clear hfz22_6
       try clear hfz22_7
       try clear hfz6_0
       try clear hfz6_1
       try clear hfz6_2
       try clear hfz6_3
       try clear hfz6_4
       try clear hfz6_5
       try clear hfz6_6
       try clear hfz6_7
       try clear hfz9_0
       try clear hfz9_1
       try clear hfz9_2
       try clear hfz9_3
       try clear hfz9_4
       try clear hfz9_5
       try clear hfz9_6
       try clear hfz9_7
       try clear hx122_0
       try clear p122
       try clear p2
       try clear q122
       obtain ⟨kq, x119000_15, x119001_15, x119002_15, x119003_15, x119004_15, x119005_15, x119006_15, x119007_15, HA, HJ15, BK118, BK119, HB⟩ := hcut
       cases kq with
       | zero => exact absurd HA.out (by simp [spec_Unpack.j1])
       | succ kj15 =>
        have H := HA.out
        clear HA
        simp only [spec_Unpack.j1] at H
        by_cases c23 : 0 < (yy17.length : Int)
        ·rw [if_pos c23] at H
         have c23b0 : decide (0 < (yy17.length : Int)) = true := decide_eq_true c23
         have c23b1 : decide (0 < yy17.length) = true := decide_eq_true (by omega)
         clear c23
         replace H := zO H
         obtain ⟨t124, A240, H⟩ := H
         replace H : (if t124 = true then (spec_Unpack.j2 kj15 yy17 (wrap64 (rd yy17 0)) 0 0 0 0 0 0 0 (⟨#[]⟩ : ByteArray)) else (some (0, 0, 0, 0, 0, 0, 0, (⟨#[]⟩ : ByteArray), 3))) = some (r1, r2, r3, r4, r5, r6, r7, r8, r9) := H
         have A24 := zM A240
         clear A240
         have HC25 := zM H
         clear H
         have p123 : 0 ≤ (0 : Int) := (by omega)
         have q123 : 0 < (yy17.length : Int) := of_decide_eq_true (by first | (with_reducible assumption) | assumption)
         obtain ⟨ad123, e123, hx123_0⟩ := Kd.at_int HR120.out 0 p123 q123
         obtain rfl : ad122 = ad123 := (by injection e123)
         have qi123 : (0 < yy17.length) = True := eq_true (by omega)
         (try rw [show ((0 : Int)).toNat = 0 from rfl] at hx123_0)
         (try rw [Addr.add_zero'] at hx123_0)
         replace hx123_0 := (HB.out.cell (World.block_lt_of_cell? w _ hx123_0)).trans hx123_0
         replace p123 := eq_true p123
         replace q123 := eq_true q123
         (try (have q123d := q123; simp only [List.length_drop] at q123d))
         (try (have q123e := of_eq_true q123; rw [List.length_take] at q123e; replace q123e := Int.lt_of_lt_of_le q123e (Int.ofNat_le.mpr (Nat.min_le_left _ _)); rw [Int.ofNat_toNat] at q123e; have q123g := eq_false (Int.not_le.mpr q123e); replace q123e := eq_true q123e))
         go_upto_if 42 with (first | ((with_reducible refine gate_callee (f := 43) rfl ?_); refine goesL_ (some 41) rfl rfl Try.func43 (by kernel_rfl) rfl #[.int .i64 (wrap64 (rd yy17 0)), .int .i64 1, .int .i64 3] rfl (by (try simp only [List.map_toArray, List.map_cons, List.map_nil]); first | done | (simp only [hji11]; rfl) | rfl | (simp only [List.length_drop, List.length_take]; rfl)) ?_; (with_reducible refine (spec_l1In.calls (wrap64 (rd yy17 0)) 1 3 t124 _ A24.out).mono ?_); rintro e w' ⟨rfl, ⟨nd, rfl⟩⟩; refine ⟨_, rfl, ?_⟩))
         (try simp only [Act.put, zS, z0, z1])
         go_cut [] (fun wc => ∃ (kq : Nat) (x119000_24 : Int) (x119001_24 : Int) (x119002_24 : Int) (x119003_24 : Int) (x119004_24 : Int) (x119005_24 : Int) (x119006_24 : Int) (x119007_24 : ByteArray), Aside0 (spec_Unpack.j2 kq yy17 (wrap64 (rd yy17 0)) 0 0 0 0 0 0 0 (⟨#[]⟩ : ByteArray) = some (r1, r2, r3, r4, r5, r6, r7, r8, r9)) ∧ Aside0 (kq ≤ kj15) ∧ Aside0 (wc.heap[gb118]? = some (.cells #[.int .i64 x119000_24, .int .i64 x119001_24, .int .i64 x119002_24, .int .i64 x119003_24, .int .i64 x119004_24, .int .i64 x119005_24, .int .i64 x119006_24, .string x119007_24] 32 (0, 0))) ∧ Aside0 (wc.heap[gb119]? = some (.cells #[.int .i64 0, .int .i64 0, .int .i64 0, .int .i64 0, .int .i64 0, .int .i64 0, .int .i64 0, .string (⟨#[]⟩ : ByteArray)] 32 (0, 0))) ∧ Aside0 (Below w.heap.size w wc))
         case first =>
          have H := HC25.out
          clear HC25
          by_cases c26 : t124 = true
          ·subst c26
           have H1 : (spec_Unpack.j2 kj15 yy17 (wrap64 (rd yy17 0)) 0 0 0 0 0 0 0 (⟨#[]⟩ : ByteArray)) = some (r1, r2, r3, r4, r5, r6, r7, r8, r9) := by rw [if_pos rfl] at H; exact H
           clear H
           have H := H1
           clear H1
           have H' := zM H
           clear H
           go_wp2
           go_meet
           case rel => exact ⟨_, (x119000_15), (x119001_15), (x119002_15), (x119003_15), (x119004_15), (x119005_15), (x119006_15), (x119007_15), H', ⟨by have := HJ1.out; have := HJ15.out; first | omega | exact Nat.le_refl _⟩, ⟨by (with_reducible repeat (first | refine bA ?_ _ | refine bB ?_ | refine bC ?_ _)); exact BK118.out⟩, ⟨by (with_reducible repeat (first | refine bA ?_ _ | refine bB ?_ | refine bC ?_ _)); exact BK119.out⟩, ⟨by repeat (first | (with_reducible first | exact HB.out | apply bE | apply bD | apply bF | refine below_set ?_ GE118.out | refine below_set ?_ GE119.out) | exact HB.out)⟩⟩
          ·replace c26 := Bool.eq_false_iff.mpr c26
           subst c26
           have H1 : (some (0, 0, 0, 0, 0, 0, 0, (⟨#[]⟩ : ByteArray), 3)) = some (r1, r2, r3, r4, r5, r6, r7, r8, r9) := by rw [if_neg (show ¬ (false = true) by decide)] at H; exact H
           clear H
           have H := H1
           clear H1
           simp only [zI, zJ] at H
           obtain ⟨rfl, rfl, rfl, rfl, rfl, rfl, rfl, rfl, rfl⟩ := H
           have hnb27 := NB119_118.out
           have hnc27 := NB118_119.out
           have hcz28_0 : wc.cell? ⟨gb119, 0, none⟩ = some (.int .i64 0) := (blk_cell BK119.out 0).trans rfl
           have hcz28_1 : wc.cell? ⟨gb119, 1, none⟩ = some (.int .i64 0) := (blk_cell BK119.out 1).trans rfl
           have hcz28_2 : wc.cell? ⟨gb119, 2, none⟩ = some (.int .i64 0) := (blk_cell BK119.out 2).trans rfl
           have hcz28_3 : wc.cell? ⟨gb119, 3, none⟩ = some (.int .i64 0) := (blk_cell BK119.out 3).trans rfl
           have hcz28_4 : wc.cell? ⟨gb119, 4, none⟩ = some (.int .i64 0) := (blk_cell BK119.out 4).trans rfl
           have hcz28_5 : wc.cell? ⟨gb119, 5, none⟩ = some (.int .i64 0) := (blk_cell BK119.out 5).trans rfl
           have hcz28_6 : wc.cell? ⟨gb119, 6, none⟩ = some (.int .i64 0) := (blk_cell BK119.out 6).trans rfl
           have hcz28_7 : wc.cell? ⟨gb119, 7, none⟩ = some (.string (⟨#[]⟩ : ByteArray)) := (blk_cell BK119.out 7).trans rfl
           have hfz28_0 := blk_frozen BK119.out 0
           have hfz28_1 := blk_frozen BK119.out 1
           have hfz28_2 := blk_frozen BK119.out 2
           have hfz28_3 := blk_frozen BK119.out 3
           have hfz28_4 := blk_frozen BK119.out 4
           have hfz28_5 := blk_frozen BK119.out 5
           have hfz28_6 := blk_frozen BK119.out 6
           have hfz28_7 := blk_frozen BK119.out 7
           have hcz29_0 : wc.cell? ⟨gb118, 0, none⟩ = some (.int .i64 x119000_15) := (blk_cell BK118.out 0).trans rfl
           have hcz29_1 : wc.cell? ⟨gb118, 1, none⟩ = some (.int .i64 x119001_15) := (blk_cell BK118.out 1).trans rfl
           have hcz29_2 : wc.cell? ⟨gb118, 2, none⟩ = some (.int .i64 x119002_15) := (blk_cell BK118.out 2).trans rfl
           have hcz29_3 : wc.cell? ⟨gb118, 3, none⟩ = some (.int .i64 x119003_15) := (blk_cell BK118.out 3).trans rfl
           have hcz29_4 : wc.cell? ⟨gb118, 4, none⟩ = some (.int .i64 x119004_15) := (blk_cell BK118.out 4).trans rfl
           have hcz29_5 : wc.cell? ⟨gb118, 5, none⟩ = some (.int .i64 x119005_15) := (blk_cell BK118.out 5).trans rfl
           have hcz29_6 : wc.cell? ⟨gb118, 6, none⟩ = some (.int .i64 x119006_15) := (blk_cell BK118.out 6).trans rfl
           have hcz29_7 : wc.cell? ⟨gb118, 7, none⟩ = some (.string x119007_15) := (blk_cell BK118.out 7).trans rfl
           have hfz29_0 := blk_frozen BK118.out 0
           have hfz29_1 := blk_frozen BK118.out 1
           have hfz29_2 := blk_frozen BK118.out 2
           have hfz29_3 := blk_frozen BK118.out 3
           have hfz29_4 := blk_frozen BK118.out 4
           have hfz29_5 := blk_frozen BK118.out 5
           have hfz29_6 := blk_frozen BK118.out 6
           have hfz29_7 := blk_frozen BK118.out 7
           go_wp2
           refine bodyPost_ret (results_ct rfl _ _ gb118 32 #[.int .i64 0, .int .i64 0, .int .i64 0, .int .i64 0, .int .i64 0, .int .i64 0, .int .i64 0, .string (⟨#[]⟩ : ByteArray)] (0, 0) _ rfl (by (with_reducible repeat (first | refine bA ?_ _ | refine bB ?_ | refine bC ?_ _)); refine bH (cs := #[.int .i64 0, .int .i64 0, .int .i64 0, .int .i64 0, .int .i64 0, .int .i64 0, .int .i64 0, .string x119007_15]) ?_ 7 _ rfl; (with_reducible repeat (first | refine bA ?_ _ | refine bB ?_ | refine bC ?_ _)); refine bH (cs := #[.int .i64 0, .int .i64 0, .int .i64 0, .int .i64 0, .int .i64 0, .int .i64 0, .int .i64 x119006_15, .string x119007_15]) ?_ 6 _ rfl; (with_reducible repeat (first | refine bA ?_ _ | refine bB ?_ | refine bC ?_ _)); refine bH (cs := #[.int .i64 0, .int .i64 0, .int .i64 0, .int .i64 0, .int .i64 0, .int .i64 x119005_15, .int .i64 x119006_15, .string x119007_15]) ?_ 5 _ rfl; (with_reducible repeat (first | refine bA ?_ _ | refine bB ?_ | refine bC ?_ _)); refine bH (cs := #[.int .i64 0, .int .i64 0, .int .i64 0, .int .i64 0, .int .i64 x119004_15, .int .i64 x119005_15, .int .i64 x119006_15, .string x119007_15]) ?_ 4 _ rfl; (with_reducible repeat (first | refine bA ?_ _ | refine bB ?_ | refine bC ?_ _)); refine bH (cs := #[.int .i64 0, .int .i64 0, .int .i64 0, .int .i64 x119003_15, .int .i64 x119004_15, .int .i64 x119005_15, .int .i64 x119006_15, .string x119007_15]) ?_ 3 _ rfl; (with_reducible repeat (first | refine bA ?_ _ | refine bB ?_ | refine bC ?_ _)); refine bH (cs := #[.int .i64 0, .int .i64 0, .int .i64 x119002_15, .int .i64 x119003_15, .int .i64 x119004_15, .int .i64 x119005_15, .int .i64 x119006_15, .string x119007_15]) ?_ 2 _ rfl; (with_reducible repeat (first | refine bA ?_ _ | refine bB ?_ | refine bC ?_ _)); refine bH (cs := #[.int .i64 0, .int .i64 x119001_15, .int .i64 x119002_15, .int .i64 x119003_15, .int .i64 x119004_15, .int .i64 x119005_15, .int .i64 x119006_15, .string x119007_15]) ?_ 1 _ rfl; (with_reducible repeat (first | refine bA ?_ _ | refine bB ?_ | refine bC ?_ _)); refine bH (cs := #[.int .i64 x119000_15, .int .i64 x119001_15, .int .i64 x119002_15, .int .i64 x119003_15, .int .i64 x119004_15, .int .i64 x119005_15, .int .i64 x119006_15, .string x119007_15]) ?_ 0 _ rfl; (with_reducible repeat (first | refine bA ?_ _ | refine bB ?_ | refine bC ?_ _)); exact BK118.out) Try.underlying32 rfl (by kernel_rfl)) rfl ?_
           exact ⟨by first | rfl | (simp only [← hji11]; first | rfl | (simp [errW_none, errW_some] <;> rfl)) | (simp [*, errW_none, errW_some] <;> rfl), by repeat (first | (with_reducible first | exact HB.out | apply bE | apply bD | apply bF | refine below_set ?_ GE118.out | refine below_set ?_ GE119.out) | exact HB.out)⟩
         case rest =>
          clear HC25
          try clear c1
          try clear p1
          try clear q1
          try clear hx1
          try clear qi1
          try clear c2
          try clear p2
          try clear c4
          try clear c5
          try clear p6
          try clear c7
          try clear c7b0
          try clear c7b1
          try clear c8
          try clear c12
          try clear c12b0
          try clear c12b1
          try clear p12
          try clear q12
          try clear hx12
          try clear qi12
          try clear c13
          try clear c13b0
          try clear c13b1
          try clear c15
          try clear c15b0
          try clear c17
          try clear c19
          try clear c19b0
          try clear c19b1
          try clear c20
          try clear c23
          try clear c23b0
          try clear c23b1
          try clear c26
          try clear c27
          try clear hcz10_0
          try clear hcz10_1
          try clear hcz10_2
          try clear hcz10_3
          try clear hcz10_4
          try clear hcz10_5
          try clear hcz10_6
          try clear hcz10_7
          try clear hcz21_0
          try clear hcz21_1
          try clear hcz21_2
          try clear hcz21_3
          try clear hcz21_4
          try clear hcz21_5
          try clear hcz21_6
          try clear hcz21_7
          try clear hcz22_0
          try clear hcz22_1
          try clear hcz22_2
          try clear hcz22_3
          try clear hcz22_4
          try clear hcz22_5
          try clear hcz22_6
          try clear hcz22_7
          try clear hcz28_0
          try clear hcz28_1
          try clear hcz28_2
          try clear hcz28_3
          try clear hcz28_4
          try clear hcz28_5
          try clear hcz28_6
          try clear hcz28_7
          try clear hcz29_0
          try clear hcz29_1
          try clear hcz29_2
          try clear hcz29_3
          try clear hcz29_4
          try clear hcz29_5
          try clear hcz29_6
          try clear hcz29_7
          try clear hcz6_0
          try clear hcz6_1
          try clear hcz6_2
          try clear hcz6_3
          try clear hcz6_4
          try clear hcz6_5
          try clear hcz6_6
          try clear hcz6_7
          try clear hcz9_0
          try clear hcz9_1
          try clear hcz9_2
          try clear hcz9_3
          try clear hcz9_4
          try clear hcz9_5
          try clear hcz9_6
          try clear hcz9_7
          try clear hfz10_0
          try clear hfz10_1
          try clear hfz10_2
          try clear hfz10_3
          try clear hfz10_4
          try clear hfz10_5
          try clear hfz10_6
          try clear hfz10_7
          try clear hfz21_0
          try clear hfz21_1
          try clear hfz21_2
          try clear hfz21_3
          try clear hfz21_4
          try clear hfz21_5
          try clear hfz21_6
          try clear hfz21_7
          try clear hfz22_0
          try clear hfz22_1
          try clear hfz22_2
          try clear hfz22_3
          try clear hfz22_4
          try clear hfz22_5
          try clear hfz22_6
          try clear hfz22_7
          try clear hfz28_0
          try clear hfz28_1
          try clear hfz28_2
          try clear hfz28_3
          try clear hfz28_4
          try clear hfz28_5
          try clear hfz28_6
          try clear hfz28_7
          try clear hfz29_0
          try clear hfz29_1
          try clear hfz29_2
          try clear hfz29_3
          try clear hfz29_4
          try clear hfz29_5
          try clear hfz29_6
          try clear hfz29_7
          try clear hfz6_0
          try clear hfz6_1
          try clear hfz6_2
          try clear hfz6_3
          try clear hfz6_4
          try clear hfz6_5
          try clear hfz6_6
          try clear hfz6_7
          try clear hfz9_0
          try clear hfz9_1
          try clear hfz9_2
          try clear hfz9_3
          try clear hfz9_4
          try clear hfz9_5
          try clear hfz9_6
          try clear hfz9_7
          try clear hx122_0
          try clear hx123_0
          try clear p1
          try clear p12
          try clear p122
          try clear p123
          try clear p2
          try clear p6
          try clear q1
          try clear q12
          try clear q122
          try clear q123
          obtain ⟨kq, x119000_24, x119001_24, x119002_24, x119003_24, x119004_24, x119005_24, x119006_24, x119007_24, HA, HJ24, BK118, BK119, HB⟩ := hcut
          cases kq with
          | zero => exact absurd HA.out (by simp [spec_Unpack.j2])
          | succ kj24 =>
           have H := HA.out
           clear HA
           simp only [spec_Unpack.j2] at H
           obtain ⟨y125, hy125⟩ : ∃ y_ : List Int, y_ = (([0, 3, 5, 3] : List Int)) := ⟨_, rfl⟩
           replace H : (if 0 ≤ (wrap64 (rd yy17 0)) then (if (wrap64 (rd yy17 0)) < (y125.length : Int) then (spec_Unpack.l0 kj24 yy17 (wrap64 (rd yy17 0)) (rd y125 (wrap64 (rd yy17 0))) (([] : List Int)) 1 0 0 0 0 0 0 0 0 (⟨#[]⟩ : ByteArray)) else (none)) else (none)) = some (r1, r2, r3, r4, r5, r6, r7, r8, r9) := by first | (rw [hy125]; with_reducible exact H) | (have H2_ := (Option.bind_some _ _).symm.trans H; rw [hy125]; with_reducible exact H2_) | (have H2_ := (Option.bind_some _ _).symm.trans H; with_reducible exact H2_) | with_reducible exact H | (rw [hy125]; exact H) | exact H
           have Ny125 := zM hy125
           clear hy125
           obtain ⟨ji30, hji30⟩ : ∃ j_ : Int, (wrap64 (rd yy17 0)) = j_ := ⟨_, rfl⟩
           replace H : (if 0 ≤ (ji30) then (if (ji30) < (y125.length : Int) then (spec_Unpack.l0 kj24 yy17 (ji30) (rd y125 (ji30)) (([] : List Int)) 1 0 0 0 0 0 0 0 0 (⟨#[]⟩ : ByteArray)) else (none)) else (none)) = some (r1, r2, r3, r4, r5, r6, r7, r8, r9) := by first | (rw [hji30] at H; exact H) | (simp only [hji30] at H ⊢; exact H)
           (try rw [hji30] at hji11)
           (try rw [hji30] at hji11w)
           have hji30w : (IntKind.i64.wrap (rd yy17 0)) = ji30 := (i64_w _).trans hji30
           by_cases c31 : 0 ≤ (ji30)
           ·rw [if_pos c31] at H
            have c31b0 : decide (0 ≤ (ji30)) = true := decide_eq_true c31
            clear c31
            by_cases c32 : (ji30) < (y125.length : Int)
            ·rw [if_pos c32] at H
             have c32b0 : decide ((ji30) < (y125.length : Int)) = true := decide_eq_true c32
             clear c32
             obtain ⟨y129, hy129⟩ : ∃ y_ : List Int, y_ = (([] : List Int)) := ⟨_, rfl⟩
             replace H : (spec_Unpack.l0 kj24 yy17 (ji30) (rd y125 (ji30)) y129 1 0 0 0 0 0 0 0 0 (⟨#[]⟩ : ByteArray)) = some (r1, r2, r3, r4, r5, r6, r7, r8, r9) := by first | (rw [hy129]; with_reducible exact H) | (have H2_ := (Option.bind_some _ _).symm.trans H; rw [hy129]; with_reducible exact H2_) | (have H2_ := (Option.bind_some _ _).symm.trans H; with_reducible exact H2_) | with_reducible exact H | (rw [hy129]; exact H) | exact H
             have Ny129 := zM hy129
             clear hy129
             have H' := zM H
             clear H
             go_wp2_with (first | ((with_reducible refine gate_dst (N := 44) rfl ?_); refine Kd.R_lit (Kd.int .i64) _ 3 ?hg (N := 44) ?hd (xs := ([0, 3, 5, 3] : List Int)) (inner := [.int .i64 0, .int .i64 3, .int .i64 5, .int .i64 3]) (ok := fun _ => True) (okp := fun _ => True) ?hr ?hp (fun _ hk => hk) trivial (Below.refl _ _) (Nat.le_refl _) (by simp) ?_; (case hd => rfl); (case hg => rfl); (case hr => first | (go_simp; done) | (go_simp; rfl)); (case hp => exact (Reps.one (show Kd.M (Kd.int .i64) _ _ _ 0 [.int .i64 0] from rfl) (Reps.one (show Kd.M (Kd.int .i64) _ _ _ 3 [.int .i64 3] from rfl) (Reps.one (show Kd.M (Kd.int .i64) _ _ _ 5 [.int .i64 5] from rfl) (Reps.one (show Kd.M (Kd.int .i64) _ _ _ 3 [.int .i64 3] from rfl) (Reps.none _ _)))))); intro v126 w33 ho34 hb hg_ hnew_; clear hg_ hnew_; (first | rw [← Ny125.out] at ho34 | (simp only [Int.reduceToNat] at ho34; rw [← Ny125.out] at ho34)); have n0_ := zM (Kd.R_lower ho34 (below_size (by repeat (first | (with_reducible first | exact HB.out | apply bE | apply bD | apply bF | refine below_set ?_ GE118.out | refine below_set ?_ GE119.out) | exact HB.out)))); have n1_ := zM (blk_below (g := gb118) (o := .cells #[.int .i64 x119000_24, .int .i64 x119001_24, .int .i64 x119002_24, .int .i64 x119003_24, .int .i64 x119004_24, .int .i64 x119005_24, .int .i64 x119006_24, .string x119007_24] 32 (0, 0)) (by (with_reducible repeat (first | refine bA ?_ _ | refine bB ?_ | refine bC ?_ _)); exact BK118.out) hb); have n2_ := zM (blk_below (g := gb119) (o := .cells #[.int .i64 0, .int .i64 0, .int .i64 0, .int .i64 0, .int .i64 0, .int .i64 0, .int .i64 0, .string (⟨#[]⟩ : ByteArray)] 32 (0, 0)) (by (with_reducible repeat (first | refine bA ?_ _ | refine bB ?_ | refine bC ?_ _)); exact BK119.out) hb); have n3_ := zM (bG (by repeat (first | (with_reducible first | exact HB.out | apply bE | apply bD | apply bF | refine below_set ?_ GE118.out | refine below_set ?_ GE119.out) | exact HB.out)) hb); clear BK118; clear BK119; clear HB; have HO127 := n0_; have BK118 := n1_; have BK119 := n2_; have HB := n3_; clear n0_ n1_ n2_ n3_; clear hb ho34; obtain ⟨Ao35, co35, eo35⟩ := Kd.R_slice HO127.out; subst eo35; have p128 : 0 ≤ ((ji30) : Int) := of_decide_eq_true (by first | (with_reducible assumption) | assumption); have q128 : (ji30) < (y125.length : Int) := of_decide_eq_true (by first | (with_reducible assumption) | assumption); obtain ⟨ad128, e128, hx128_0⟩ := Kd.at_int (Kd.R_reads' HO127.out).2.2 (ji30) p128 q128; cases e128; replace p128 := eq_true p128; replace q128 := eq_true q128) | ((with_reducible refine gate_dst (N := 48) rfl ?_); refine Kd.R_lit (Kd.int .i64) _ 3 ?hg (N := 48) ?hd (xs := ([] : List Int)) (inner := []) (ok := fun _ => True) (okp := fun _ => True) ?hr ?hp (fun _ hk => hk) trivial (Below.refl _ _) (Nat.le_refl _) (by simp) ?_; (case hd => rfl); (case hg => rfl); (case hr => first | (go_simp; done) | (go_simp; rfl)); (case hp => exact (Reps.none _ _)); intro v130 w36 ho37 hb hg_ hnew_; clear hg_ hnew_; (first | rw [← Ny129.out] at ho37 | (simp only [Int.reduceToNat] at ho37; rw [← Ny129.out] at ho37)); have n0_ := zM (Kd.R_elder' (by (with_reducible repeat (first | apply Kd.R_alloc | apply Kd.R_drewN | apply Kd.R_drew)); exact HO127.out) (Kd.R_base ho37) hb); have n1_ := zM (Kd.R_lower (Kd.R_new' ho37 (Kd.R_lt (by (with_reducible repeat (first | apply Kd.R_alloc | apply Kd.R_drewN | apply Kd.R_drew)); exact HO127.out))) (below_size (by repeat (first | (with_reducible first | exact HB.out | apply bE | apply bD | apply bF | refine below_set ?_ GE118.out | refine below_set ?_ GE119.out) | exact HB.out)))); have n2_ := zM (blk_below (g := gb118) (o := .cells #[.int .i64 x119000_24, .int .i64 x119001_24, .int .i64 x119002_24, .int .i64 x119003_24, .int .i64 x119004_24, .int .i64 x119005_24, .int .i64 x119006_24, .string x119007_24] 32 (0, 0)) (by (with_reducible repeat (first | refine bA ?_ _ | refine bB ?_ | refine bC ?_ _)); exact BK118.out) hb); have n3_ := zM (blk_below (g := gb119) (o := .cells #[.int .i64 0, .int .i64 0, .int .i64 0, .int .i64 0, .int .i64 0, .int .i64 0, .int .i64 0, .string (⟨#[]⟩ : ByteArray)] 32 (0, 0)) (by (with_reducible repeat (first | refine bA ?_ _ | refine bB ?_ | refine bC ?_ _)); exact BK119.out) hb); have n4_ := zM (bG (by repeat (first | (with_reducible first | exact HB.out | apply bE | apply bD | apply bF | refine below_set ?_ GE118.out | refine below_set ?_ GE119.out) | exact HB.out)) hb); clear HO127; clear BK118; clear BK119; clear HB; have HO127 := n0_; have HO131 := n1_; have BK118 := n2_; have BK119 := n3_; have HB := n4_; clear n0_ n1_ n2_ n3_ n4_; clear hb ho37))
             go_loopg [8, 9, 10] kj24 (fun kq v8 v9 v10 w' => ∃ (x8_4 : List Int) (x9_4 : Int) (x10_4 : Int) (x119000_4 : Int) (x119001_4 : Int) (x119002_4 : Int) (x119003_4 : Int) (x119004_4 : Int) (x119005_4 : Int) (x119006_4 : Int) (x119007_4 : ByteArray), v9 = .int .i64 x9_4 ∧ v10 = .int .i64 x10_4 ∧ Aside0 (spec_Unpack.l0 kq yy17 (ji30) (rd y125 (ji30)) x8_4 x9_4 x10_4 0 0 0 0 0 0 0 (⟨#[]⟩ : ByteArray) = some (r1, r2, r3, r4, r5, r6, r7, r8, r9)) ∧ Aside0 (kq ≤ kj24) ∧ Aside0 (Kd.R (Kd.int .i64) 3 w' w.heap.size (fun _ => True) v8 x8_4) ∧ Aside0 (w'.heap[gb118]? = some (.cells #[.int .i64 x119000_4, .int .i64 x119001_4, .int .i64 x119002_4, .int .i64 x119003_4, .int .i64 x119004_4, .int .i64 x119005_4, .int .i64 x119006_4, .string x119007_4] 32 (0, 0))) ∧ Aside0 (w'.heap[gb119]? = some (.cells #[.int .i64 0, .int .i64 0, .int .i64 0, .int .i64 0, .int .i64 0, .int .i64 0, .int .i64 0, .string (⟨#[]⟩ : ByteArray)] 32 (0, 0))) ∧ Aside0 (Below w.heap.size w w'))
             case atStart => exact ⟨(y129), (1), (0), (x119000_24), (x119001_24), (x119002_24), (x119003_24), (x119004_24), (x119005_24), (x119006_24), (x119007_24), (by first | rfl | (simp; done) | (simp [*]; done)), (by first | rfl | (simp; done) | (simp [*]; done)), H', ⟨Nat.le_refl _⟩, ⟨by (with_reducible repeat (first | apply Kd.R_alloc | apply Kd.R_drewN | apply Kd.R_drew)); exact Kd.R_mono HO131.out (fun _ hk => trivial)⟩, ⟨by (with_reducible repeat (first | refine bA ?_ _ | refine bB ?_ | refine bC ?_ _)); exact BK118.out⟩, ⟨by (with_reducible repeat (first | refine bA ?_ _ | refine bB ?_ | refine bC ?_ _)); exact BK119.out⟩, ⟨by repeat (first | (with_reducible first | exact HB.out | apply bE | apply bD | apply bF | refine below_set ?_ GE118.out | refine below_set ?_ GE119.out) | exact HB.out)⟩⟩
             case round =>
              clear H'
              try clear c1
              try clear p1
              try clear q1
              try clear hx1
              try clear qi1
              try clear c2
              try clear p2
              try clear c3
              try clear c4
              try clear c5
              try clear p6
              try clear c7
              try clear c7b0
              try clear c7b1
              try clear c8
              try clear c12
              try clear c12b0
              try clear c12b1
              try clear p12
              try clear q12
              try clear hx12
              try clear qi12
              try clear c13
              try clear c13b0
              try clear c13b1
              try clear c15
              try clear c15b0
              try clear c17
              try clear c19
              try clear c19b0
              try clear c19b1
              try clear c20
              try clear c23
              try clear c23b0
              try clear c23b1
              try clear c26
              try clear c27
              try clear c31
              try clear c31b0
              try clear c32
              try clear c32b0
              try clear hcz10_0
              try clear hcz10_1
              try clear hcz10_2
              try clear hcz10_3
              try clear hcz10_4
              try clear hcz10_5
              try clear hcz10_6
              try clear hcz10_7
              try clear hcz21_0
              try clear hcz21_1
              try clear hcz21_2
              try clear hcz21_3
              try clear hcz21_4
              try clear hcz21_5
              try clear hcz21_6
              try clear hcz21_7
              try clear hcz22_0
              try clear hcz22_1
              try clear hcz22_2
              try clear hcz22_3
              try clear hcz22_4
              try clear hcz22_5
              try clear hcz22_6
              try clear hcz22_7
              try clear hcz28_0
              try clear hcz28_1
              try clear hcz28_2
              try clear hcz28_3
              try clear hcz28_4
              try clear hcz28_5
              try clear hcz28_6
              try clear hcz28_7
              try clear hcz29_0
              try clear hcz29_1
              try clear hcz29_2
              try clear hcz29_3
              try clear hcz29_4
              try clear hcz29_5
              try clear hcz29_6
              try clear hcz29_7
              try clear hcz6_0
              try clear hcz6_1
              try clear hcz6_2
              try clear hcz6_3
              try clear hcz6_4
              try clear hcz6_5
              try clear hcz6_6
              try clear hcz6_7
              try clear hcz9_0
              try clear hcz9_1
              try clear hcz9_2
              try clear hcz9_3
              try clear hcz9_4
              try clear hcz9_5
              try clear hcz9_6
              try clear hcz9_7
              try clear hfz10_0
              try clear hfz10_1
              try clear hfz10_2
              try clear hfz10_3
              try clear hfz10_4
              try clear hfz10_5
              try clear hfz10_6
              try clear hfz10_7
              try clear hfz21_0
              try clear hfz21_1
              try clear hfz21_2
              try clear hfz21_3
              try clear hfz21_4
              try clear hfz21_5
              try clear hfz21_6
              try clear hfz21_7
              try clear hfz22_0
              try clear hfz22_1
              try clear hfz22_2
              try clear hfz22_3
              try clear hfz22_4
              try clear hfz22_5
              try clear hfz22_6
              try clear hfz22_7
              try clear hfz28_0
              try clear hfz28_1
              try clear hfz28_2
              try clear hfz28_3
              try clear hfz28_4
              try clear hfz28_5
              try clear hfz28_6
              try clear hfz28_7
              try clear hfz29_0
              try clear hfz29_1
              try clear hfz29_2
              try clear hfz29_3
              try clear hfz29_4
              try clear hfz29_5
              try clear hfz29_6
              try clear hfz29_7
              try clear hfz6_0
              try clear hfz6_1
              try clear hfz6_2
              try clear hfz6_3
              try clear hfz6_4
              try clear hfz6_5
              try clear hfz6_6
              try clear hfz6_7
              try clear hfz9_0
              try clear hfz9_1
              try clear hfz9_2
              try clear hfz9_3
              try clear hfz9_4
              try clear hfz9_5
              try clear hfz9_6
              try clear hfz9_7
              try clear hx122_0
              try clear hx123_0
              try clear hx128_0
              try clear p1
              try clear p12
              try clear p122
              try clear p123
              try clear p128
              try clear p2
              try clear p6
              try clear q1
              try clear q12
              try clear q122
              try clear q123
              try clear q128
              obtain ⟨x8_4, x9_4, x10_4, x119000_4, x119001_4, x119002_4, x119003_4, x119004_4, x119005_4, x119006_4, x119007_4, rfl, rfl, HA, HK4, HO_8, BK118, BK119, HB⟩ := hrel
              cases gk with
              | zero => exact absurd HA.out (by simp [spec_Unpack.l0])
              | succ k4 =>
               have H := HA.out
               clear HA
               simp only [spec_Unpack.l0] at H
               by_cases c38 : x10_4 < (rd y125 (ji30))
               ·rw [if_pos c38] at H
                have c38b0 : decide (x10_4 < (rd y125 (ji30))) = true := decide_eq_true c38
                clear c38
                replace H := zO H
                obtain ⟨⟨t132, t133, t134⟩, A390, H⟩ := H
                replace H : (if t134 = true then (if t132 > 4000000000000 then (some (0, 0, 0, 0, 0, 0, 0, (⟨#[]⟩ : ByteArray), 4)) else (if x8_4.length < 17592186044416 then (spec_Unpack.l0 k4 yy17 (ji30) (rd y125 (ji30)) (x8_4 ++ [t132]) t133 (wrap64 (x10_4 + 1)) 0 0 0 0 0 0 0 (⟨#[]⟩ : ByteArray)) else (none))) else (some (0, 0, 0, 0, 0, 0, 0, (⟨#[]⟩ : ByteArray), 4))) = some (r1, r2, r3, r4, r5, r6, r7, r8, r9) := H
                have A39 := zM A390
                clear A390
                by_cases c40 : t134 = true
                ·subst c40
                 have H1 : (if t132 > 4000000000000 then (some (0, 0, 0, 0, 0, 0, 0, (⟨#[]⟩ : ByteArray), 4)) else (if x8_4.length < 17592186044416 then (spec_Unpack.l0 k4 yy17 (ji30) (rd y125 (ji30)) (x8_4 ++ [t132]) t133 (wrap64 (x10_4 + 1)) 0 0 0 0 0 0 0 (⟨#[]⟩ : ByteArray)) else (none))) = some (r1, r2, r3, r4, r5, r6, r7, r8, r9) := by rw [if_pos rfl] at H; exact H
                 clear H
                 have H := H1
                 clear H1
                 by_cases c41 : t132 > 4000000000000
                 ·rw [if_pos c41] at H
                  have c41b0 : decide (4000000000000 < t132) = true := decide_eq_true c41
                  clear c41
                  simp only [zI, zJ] at H
                  obtain ⟨rfl, rfl, rfl, rfl, rfl, rfl, rfl, rfl, rfl⟩ := H
                  go_wp2_with (first | ((with_reducible refine gate_callee (f := 44) rfl ?_); refine goesL_ (some 57) rfl rfl Try.func44 (by kernel_rfl) rfl #[.slice (some ad122) yy17.length c0, .int .i64 x9_4] rfl (by (try simp only [List.map_toArray, List.map_cons, List.map_nil]); first | done | (rw [show yy17.length = (ji11).toNat from (by rw [List.length_take]; have h_ : ((ji11) : Int) ≤ (l0.length : Int) := (by first | exact HZ_ji11_l0.out | exact of_decide_eq_true (by first | (with_reducible assumption) | assumption)); omega)] <;> rfl) | (simp only [hji11]; rfl) | rfl | (simp only [List.length_drop, List.length_take]; rfl)) ?_; (with_reducible refine (spec_GetNum.calls k4 _ _ yy17 x9_4 t132 t133 true _ ?side1 ?side2 A39.out).mono ?_); (case side1 => repeat (first | exact (Kd.C_below HR120.out HB.out) | (with_reducible refine Kd.C_alloc ?_ _) | (with_reducible refine Kd.C_drewN ?_ _) | (with_reducible refine Kd.C_drew ?_))); (case side2 => exact HC120.out); rintro e w' ⟨rfl, ⟨nd, rfl⟩⟩; refine ⟨_, rfl, ?_⟩; (try (rw [drewN_self wr]; generalize hq_ : World.drewN wr _ = wr; have n0_ : Aside0 (Kd.R (Kd.int .i64) 3 wr w.heap.size (fun k_ => True) u8 x8_4) := ⟨by rw [← hq_]; exact (by (with_reducible repeat (first | apply Kd.R_alloc | apply Kd.R_drewN | apply Kd.R_drew)); exact HO_8.out)⟩; have n1_ : Aside0 (wr.heap[gb118]? = some (.cells #[.int .i64 x119000_4, .int .i64 x119001_4, .int .i64 x119002_4, .int .i64 x119003_4, .int .i64 x119004_4, .int .i64 x119005_4, .int .i64 x119006_4, .string x119007_4] 32 (0, 0))) := ⟨by rw [← hq_]; exact (by (with_reducible repeat (first | refine bA ?_ _ | refine bB ?_ | refine bC ?_ _)); exact BK118.out)⟩; have n2_ : Aside0 (wr.heap[gb119]? = some (.cells #[.int .i64 0, .int .i64 0, .int .i64 0, .int .i64 0, .int .i64 0, .int .i64 0, .int .i64 0, .string (⟨#[]⟩ : ByteArray)] 32 (0, 0))) := ⟨by rw [← hq_]; exact (by (with_reducible repeat (first | refine bA ?_ _ | refine bB ?_ | refine bC ?_ _)); exact BK119.out)⟩; have n3_ : Aside0 (Below w.heap.size w wr) := ⟨by rw [← hq_]; exact (by repeat (first | (with_reducible first | exact HB.out | apply bE | apply bD | apply bF | refine below_set ?_ GE118.out | refine below_set ?_ GE119.out) | exact HB.out))⟩; clear HO_8 BK118 BK119 HB hq_; have HO_8 := n0_; have BK118 := n1_; have BK119 := n2_; have HB := n3_; clear n0_ n1_ n2_ n3_)); have hnb42 := NB119_118.out; have hnc42 := NB118_119.out; have hcz43_0 : wr.cell? ⟨gb119, 0, none⟩ = some (.int .i64 0) := (blk_cell BK119.out 0).trans rfl; have hcz43_1 : wr.cell? ⟨gb119, 1, none⟩ = some (.int .i64 0) := (blk_cell BK119.out 1).trans rfl; have hcz43_2 : wr.cell? ⟨gb119, 2, none⟩ = some (.int .i64 0) := (blk_cell BK119.out 2).trans rfl; have hcz43_3 : wr.cell? ⟨gb119, 3, none⟩ = some (.int .i64 0) := (blk_cell BK119.out 3).trans rfl; have hcz43_4 : wr.cell? ⟨gb119, 4, none⟩ = some (.int .i64 0) := (blk_cell BK119.out 4).trans rfl; have hcz43_5 : wr.cell? ⟨gb119, 5, none⟩ = some (.int .i64 0) := (blk_cell BK119.out 5).trans rfl; have hcz43_6 : wr.cell? ⟨gb119, 6, none⟩ = some (.int .i64 0) := (blk_cell BK119.out 6).trans rfl; have hcz43_7 : wr.cell? ⟨gb119, 7, none⟩ = some (.string (⟨#[]⟩ : ByteArray)) := (blk_cell BK119.out 7).trans rfl; have hfz43_0 := blk_frozen BK119.out 0; have hfz43_1 := blk_frozen BK119.out 1; have hfz43_2 := blk_frozen BK119.out 2; have hfz43_3 := blk_frozen BK119.out 3; have hfz43_4 := blk_frozen BK119.out 4; have hfz43_5 := blk_frozen BK119.out 5; have hfz43_6 := blk_frozen BK119.out 6; have hfz43_7 := blk_frozen BK119.out 7; have hcz44_0 : wr.cell? ⟨gb118, 0, none⟩ = some (.int .i64 x119000_4) := (blk_cell BK118.out 0).trans rfl; have hcz44_1 : wr.cell? ⟨gb118, 1, none⟩ = some (.int .i64 x119001_4) := (blk_cell BK118.out 1).trans rfl; have hcz44_2 : wr.cell? ⟨gb118, 2, none⟩ = some (.int .i64 x119002_4) := (blk_cell BK118.out 2).trans rfl; have hcz44_3 : wr.cell? ⟨gb118, 3, none⟩ = some (.int .i64 x119003_4) := (blk_cell BK118.out 3).trans rfl; have hcz44_4 : wr.cell? ⟨gb118, 4, none⟩ = some (.int .i64 x119004_4) := (blk_cell BK118.out 4).trans rfl; have hcz44_5 : wr.cell? ⟨gb118, 5, none⟩ = some (.int .i64 x119005_4) := (blk_cell BK118.out 5).trans rfl; have hcz44_6 : wr.cell? ⟨gb118, 6, none⟩ = some (.int .i64 x119006_4) := (blk_cell BK118.out 6).trans rfl; have hcz44_7 : wr.cell? ⟨gb118, 7, none⟩ = some (.string x119007_4) := (blk_cell BK118.out 7).trans rfl; have hfz44_0 := blk_frozen BK118.out 0; have hfz44_1 := blk_frozen BK118.out 1; have hfz44_2 := blk_frozen BK118.out 2; have hfz44_3 := blk_frozen BK118.out 3; have hfz44_4 := blk_frozen BK118.out 4; have hfz44_5 := blk_frozen BK118.out 5; have hfz44_6 := blk_frozen BK118.out 6; have hfz44_7 := blk_frozen BK118.out 7))
                  refine bodyPost_ret (results_ct rfl _ _ gb118 32 #[.int .i64 0, .int .i64 0, .int .i64 0, .int .i64 0, .int .i64 0, .int .i64 0, .int .i64 0, .string (⟨#[]⟩ : ByteArray)] (0, 0) _ rfl (by (with_reducible repeat (first | refine bA ?_ _ | refine bB ?_ | refine bC ?_ _)); refine bH (cs := #[.int .i64 0, .int .i64 0, .int .i64 0, .int .i64 0, .int .i64 0, .int .i64 0, .int .i64 0, .string x119007_4]) ?_ 7 _ rfl; (with_reducible repeat (first | refine bA ?_ _ | refine bB ?_ | refine bC ?_ _)); refine bH (cs := #[.int .i64 0, .int .i64 0, .int .i64 0, .int .i64 0, .int .i64 0, .int .i64 0, .int .i64 x119006_4, .string x119007_4]) ?_ 6 _ rfl; (with_reducible repeat (first | refine bA ?_ _ | refine bB ?_ | refine bC ?_ _)); refine bH (cs := #[.int .i64 0, .int .i64 0, .int .i64 0, .int .i64 0, .int .i64 0, .int .i64 x119005_4, .int .i64 x119006_4, .string x119007_4]) ?_ 5 _ rfl; (with_reducible repeat (first | refine bA ?_ _ | refine bB ?_ | refine bC ?_ _)); refine bH (cs := #[.int .i64 0, .int .i64 0, .int .i64 0, .int .i64 0, .int .i64 x119004_4, .int .i64 x119005_4, .int .i64 x119006_4, .string x119007_4]) ?_ 4 _ rfl; (with_reducible repeat (first | refine bA ?_ _ | refine bB ?_ | refine bC ?_ _)); refine bH (cs := #[.int .i64 0, .int .i64 0, .int .i64 0, .int .i64 x119003_4, .int .i64 x119004_4, .int .i64 x119005_4, .int .i64 x119006_4, .string x119007_4]) ?_ 3 _ rfl; (with_reducible repeat (first | refine bA ?_ _ | refine bB ?_ | refine bC ?_ _)); refine bH (cs := #[.int .i64 0, .int .i64 0, .int .i64 x119002_4, .int .i64 x119003_4, .int .i64 x119004_4, .int .i64 x119005_4, .int .i64 x119006_4, .string x119007_4]) ?_ 2 _ rfl; (with_reducible repeat (first | refine bA ?_ _ | refine bB ?_ | refine bC ?_ _)); refine bH (cs := #[.int .i64 0, .int .i64 x119001_4, .int .i64 x119002_4, .int .i64 x119003_4, .int .i64 x119004_4, .int .i64 x119005_4, .int .i64 x119006_4, .string x119007_4]) ?_ 1 _ rfl; (with_reducible repeat (first | refine bA ?_ _ | refine bB ?_ | refine bC ?_ _)); refine bH (cs := #[.int .i64 x119000_4, .int .i64 x119001_4, .int .i64 x119002_4, .int .i64 x119003_4, .int .i64 x119004_4, .int .i64 x119005_4, .int .i64 x119006_4, .string x119007_4]) ?_ 0 _ rfl; (with_reducible repeat (first | refine bA ?_ _ | refine bB ?_ | refine bC ?_ _)); exact BK118.out) Try.underlying32 rfl (by kernel_rfl)) rfl ?_
                  exact ⟨by first | rfl | (simp only [← hji11, ← hji30]; first | rfl | (simp [errW_none, errW_some] <;> rfl)) | (simp [*, errW_none, errW_some] <;> rfl), by repeat (first | (with_reducible first | exact HB.out | apply bE | apply bD | apply bF | refine below_set ?_ GE118.out | refine below_set ?_ GE119.out) | exact HB.out)⟩
                 ·rw [if_neg c41] at H
                  have c41b0 : decide (4000000000000 < t132) = false := decide_eq_false c41
                  clear c41
                  by_cases c45 : x8_4.length < 17592186044416
                  ·rw [if_pos c45] at H
                   have LMc45 := zM c45
                   clear c45
                   obtain ⟨y135, hy135⟩ : ∃ y_ : List Int, y_ = (x8_4 ++ [t132]) := ⟨_, rfl⟩
                   replace H : (spec_Unpack.l0 k4 yy17 (ji30) (rd y125 (ji30)) y135 t133 (wrap64 (x10_4 + 1)) 0 0 0 0 0 0 0 (⟨#[]⟩ : ByteArray)) = some (r1, r2, r3, r4, r5, r6, r7, r8, r9) := by first | (rw [hy135]; with_reducible exact H) | (have H2_ := (Option.bind_some _ _).symm.trans H; rw [hy135]; with_reducible exact H2_) | (have H2_ := (Option.bind_some _ _).symm.trans H; with_reducible exact H2_) | with_reducible exact H | (rw [hy135]; exact H) | exact H
                   have Ny135 := zM hy135
                   clear hy135
                   have H' := zM H
                   clear H
                   go_wp2_with (first | ((with_reducible refine gate_callee (f := 44) rfl ?_); refine goesL_ (some 57) rfl rfl Try.func44 (by kernel_rfl) rfl #[.slice (some ad122) yy17.length c0, .int .i64 x9_4] rfl (by (try simp only [List.map_toArray, List.map_cons, List.map_nil]); first | done | (rw [show yy17.length = (ji11).toNat from (by rw [List.length_take]; have h_ : ((ji11) : Int) ≤ (l0.length : Int) := (by first | exact HZ_ji11_l0.out | exact of_decide_eq_true (by first | (with_reducible assumption) | assumption)); omega)] <;> rfl) | (simp only [hji11]; rfl) | rfl | (simp only [List.length_drop, List.length_take]; rfl)) ?_; (with_reducible refine (spec_GetNum.calls k4 _ _ yy17 x9_4 t132 t133 true _ ?side1 ?side2 A39.out).mono ?_); (case side1 => repeat (first | exact (Kd.C_below HR120.out HB.out) | (with_reducible refine Kd.C_alloc ?_ _) | (with_reducible refine Kd.C_drewN ?_ _) | (with_reducible refine Kd.C_drew ?_))); (case side2 => exact HC120.out); rintro e w' ⟨rfl, ⟨nd, rfl⟩⟩; refine ⟨_, rfl, ?_⟩) | ((with_reducible refine gate_builtin (b := .append) (xs := #[.tmp 68, .tmp 70]) rfl ?_); at_builtin; refine Kd.R_append (Kd.int .i64) (w0 := w) w.heap.size rfl (.tmp 68) (.tmp 70) 61 3 (.int .i64 0) 8 rfl Try.underlying61 info3 rfl (by decide) (by omega) u8 x8_4 t132 [.int .i64 t132] (fun _ => True) (fun _ => False) rfl rfl ?aP (fun _ hk => hk.elim) ?aF ?aO ?aB ?aS ?aL ?_; (case aP => exact rfl); (case aB => exact (by repeat (first | (with_reducible first | exact HB.out | apply bE | apply bD | apply bF | refine below_set ?_ GE118.out | refine below_set ?_ GE119.out) | exact HB.out))); (case aF => exact (fun _ _ => trivial)); (case aO => exact (by (with_reducible repeat (first | apply Kd.R_alloc | apply Kd.R_drewN | apply Kd.R_drew)); exact HO_8.out)); (case aS => exact (below_size (by repeat (first | (with_reducible first | exact HB.out | apply bE | apply bD | apply bF | refine below_set ?_ GE118.out | refine below_set ?_ GE119.out) | exact HB.out)))); (case aL => have := LMc45.out; omega); intro v136 w46 ho hb hg hat; rw [← Ny135.out] at ho; have n0_ := zM (blk_grown (g := gb118) (o := .cells #[.int .i64 x119000_4, .int .i64 x119001_4, .int .i64 x119002_4, .int .i64 x119003_4, .int .i64 x119004_4, .int .i64 x119005_4, .int .i64 x119006_4, .string x119007_4] 32 (0, 0)) (by (with_reducible repeat (first | refine bA ?_ _ | refine bB ?_ | refine bC ?_ _)); exact BK118.out) hg (Kd.R_ne HO_8.out BK118.out (by decide))); have n1_ := zM (blk_grown (g := gb119) (o := .cells #[.int .i64 0, .int .i64 0, .int .i64 0, .int .i64 0, .int .i64 0, .int .i64 0, .int .i64 0, .string (⟨#[]⟩ : ByteArray)] 32 (0, 0)) (by (with_reducible repeat (first | refine bA ?_ _ | refine bB ?_ | refine bC ?_ _)); exact BK119.out) hg (Kd.R_ne HO_8.out BK119.out (by decide))); have n2_ := zM (hb); have n3_ := zM (ho); clear BK118; clear BK119; clear HB; clear HO_8; have BK118 := n0_; have BK119 := n1_; have HB := n2_; have HO137 := n3_; clear n0_ n1_ n2_ n3_; clear ho hb hg hat))
                   go_roundg k4
                   case measure => have := HJ1.out; have := HJ15.out; have := HJ24.out; have := HK4.out; omega
                   case rel => exact ⟨(y135), (t133), (wrap64 (x10_4 + 1)), (x119000_4), (x119001_4), (x119002_4), (x119003_4), (x119004_4), (x119005_4), (x119006_4), (x119007_4), (by first | rfl | (simp; done) | (simp [*]; done)), (by first | rfl | (simp; done) | (simp [*]; done)), H', ⟨by have := HJ1.out; have := HJ15.out; have := HJ24.out; have := HK4.out; omega⟩, ⟨by (with_reducible repeat (first | apply Kd.R_alloc | apply Kd.R_drewN | apply Kd.R_drew)); exact HO137.out⟩, ⟨by (with_reducible repeat (first | refine bA ?_ _ | refine bB ?_ | refine bC ?_ _)); exact BK118.out⟩, ⟨by (with_reducible repeat (first | refine bA ?_ _ | refine bB ?_ | refine bC ?_ _)); exact BK119.out⟩, ⟨by repeat (first | (with_reducible first | exact HB.out | apply bE | apply bD | apply bF | refine below_set ?_ GE118.out | refine below_set ?_ GE119.out) | exact HB.out)⟩⟩
                  ·rw [if_neg c45] at H
                   exact absurd H (by simp)
                ·replace c40 := Bool.eq_false_iff.mpr c40
                 subst c40
                 have H1 : (some (0, 0, 0, 0, 0, 0, 0, (⟨#[]⟩ : ByteArray), 4)) = some (r1, r2, r3, r4, r5, r6, r7, r8, r9) := by rw [if_neg (show ¬ (false = true) by decide)] at H; exact H
                 clear H
                 have H := H1
                 clear H1
                 simp only [zI, zJ] at H
                 obtain ⟨rfl, rfl, rfl, rfl, rfl, rfl, rfl, rfl, rfl⟩ := H
                 go_wp2_with (first | ((with_reducible refine gate_callee (f := 44) rfl ?_); refine goesL_ (some 57) rfl rfl Try.func44 (by kernel_rfl) rfl #[.slice (some ad122) yy17.length c0, .int .i64 x9_4] rfl (by (try simp only [List.map_toArray, List.map_cons, List.map_nil]); first | done | (rw [show yy17.length = (ji11).toNat from (by rw [List.length_take]; have h_ : ((ji11) : Int) ≤ (l0.length : Int) := (by first | exact HZ_ji11_l0.out | exact of_decide_eq_true (by first | (with_reducible assumption) | assumption)); omega)] <;> rfl) | (simp only [hji11]; rfl) | rfl | (simp only [List.length_drop, List.length_take]; rfl)) ?_; (with_reducible refine (spec_GetNum.calls k4 _ _ yy17 x9_4 t132 t133 false _ ?side1 ?side2 A39.out).mono ?_); (case side1 => repeat (first | exact (Kd.C_below HR120.out HB.out) | (with_reducible refine Kd.C_alloc ?_ _) | (with_reducible refine Kd.C_drewN ?_ _) | (with_reducible refine Kd.C_drew ?_))); (case side2 => exact HC120.out); rintro e w' ⟨rfl, ⟨nd, rfl⟩⟩; refine ⟨_, rfl, ?_⟩; (try (rw [drewN_self wr]; generalize hq_ : World.drewN wr _ = wr; have n0_ : Aside0 (Kd.R (Kd.int .i64) 3 wr w.heap.size (fun k_ => True) u8 x8_4) := ⟨by rw [← hq_]; exact (by (with_reducible repeat (first | apply Kd.R_alloc | apply Kd.R_drewN | apply Kd.R_drew)); exact HO_8.out)⟩; have n1_ : Aside0 (wr.heap[gb118]? = some (.cells #[.int .i64 x119000_4, .int .i64 x119001_4, .int .i64 x119002_4, .int .i64 x119003_4, .int .i64 x119004_4, .int .i64 x119005_4, .int .i64 x119006_4, .string x119007_4] 32 (0, 0))) := ⟨by rw [← hq_]; exact (by (with_reducible repeat (first | refine bA ?_ _ | refine bB ?_ | refine bC ?_ _)); exact BK118.out)⟩; have n2_ : Aside0 (wr.heap[gb119]? = some (.cells #[.int .i64 0, .int .i64 0, .int .i64 0, .int .i64 0, .int .i64 0, .int .i64 0, .int .i64 0, .string (⟨#[]⟩ : ByteArray)] 32 (0, 0))) := ⟨by rw [← hq_]; exact (by (with_reducible repeat (first | refine bA ?_ _ | refine bB ?_ | refine bC ?_ _)); exact BK119.out)⟩; have n3_ : Aside0 (Below w.heap.size w wr) := ⟨by rw [← hq_]; exact (by repeat (first | (with_reducible first | exact HB.out | apply bE | apply bD | apply bF | refine below_set ?_ GE118.out | refine below_set ?_ GE119.out) | exact HB.out))⟩; clear HO_8 BK118 BK119 HB hq_; have HO_8 := n0_; have BK118 := n1_; have BK119 := n2_; have HB := n3_; clear n0_ n1_ n2_ n3_)); have hnb47 := NB119_118.out; have hnc47 := NB118_119.out; have hcz48_0 : wr.cell? ⟨gb119, 0, none⟩ = some (.int .i64 0) := (blk_cell BK119.out 0).trans rfl; have hcz48_1 : wr.cell? ⟨gb119, 1, none⟩ = some (.int .i64 0) := (blk_cell BK119.out 1).trans rfl; have hcz48_2 : wr.cell? ⟨gb119, 2, none⟩ = some (.int .i64 0) := (blk_cell BK119.out 2).trans rfl; have hcz48_3 : wr.cell? ⟨gb119, 3, none⟩ = some (.int .i64 0) := (blk_cell BK119.out 3).trans rfl; have hcz48_4 : wr.cell? ⟨gb119, 4, none⟩ = some (.int .i64 0) := (blk_cell BK119.out 4).trans rfl; have hcz48_5 : wr.cell? ⟨gb119, 5, none⟩ = some (.int .i64 0) := (blk_cell BK119.out 5).trans rfl; have hcz48_6 : wr.cell? ⟨gb119, 6, none⟩ = some (.int .i64 0) := (blk_cell BK119.out 6).trans rfl; have hcz48_7 : wr.cell? ⟨gb119, 7, none⟩ = some (.string (⟨#[]⟩ : ByteArray)) := (blk_cell BK119.out 7).trans rfl; have hfz48_0 := blk_frozen BK119.out 0; have hfz48_1 := blk_frozen BK119.out 1; have hfz48_2 := blk_frozen BK119.out 2; have hfz48_3 := blk_frozen BK119.out 3; have hfz48_4 := blk_frozen BK119.out 4; have hfz48_5 := blk_frozen BK119.out 5; have hfz48_6 := blk_frozen BK119.out 6; have hfz48_7 := blk_frozen BK119.out 7; have hcz49_0 : wr.cell? ⟨gb118, 0, none⟩ = some (.int .i64 x119000_4) := (blk_cell BK118.out 0).trans rfl; have hcz49_1 : wr.cell? ⟨gb118, 1, none⟩ = some (.int .i64 x119001_4) := (blk_cell BK118.out 1).trans rfl; have hcz49_2 : wr.cell? ⟨gb118, 2, none⟩ = some (.int .i64 x119002_4) := (blk_cell BK118.out 2).trans rfl; have hcz49_3 : wr.cell? ⟨gb118, 3, none⟩ = some (.int .i64 x119003_4) := (blk_cell BK118.out 3).trans rfl; have hcz49_4 : wr.cell? ⟨gb118, 4, none⟩ = some (.int .i64 x119004_4) := (blk_cell BK118.out 4).trans rfl; have hcz49_5 : wr.cell? ⟨gb118, 5, none⟩ = some (.int .i64 x119005_4) := (blk_cell BK118.out 5).trans rfl; have hcz49_6 : wr.cell? ⟨gb118, 6, none⟩ = some (.int .i64 x119006_4) := (blk_cell BK118.out 6).trans rfl; have hcz49_7 : wr.cell? ⟨gb118, 7, none⟩ = some (.string x119007_4) := (blk_cell BK118.out 7).trans rfl; have hfz49_0 := blk_frozen BK118.out 0; have hfz49_1 := blk_frozen BK118.out 1; have hfz49_2 := blk_frozen BK118.out 2; have hfz49_3 := blk_frozen BK118.out 3; have hfz49_4 := blk_frozen BK118.out 4; have hfz49_5 := blk_frozen BK118.out 5; have hfz49_6 := blk_frozen BK118.out 6; have hfz49_7 := blk_frozen BK118.out 7))
                 refine bodyPost_ret (results_ct rfl _ _ gb118 32 #[.int .i64 0, .int .i64 0, .int .i64 0, .int .i64 0, .int .i64 0, .int .i64 0, .int .i64 0, .string (⟨#[]⟩ : ByteArray)] (0, 0) _ rfl (by (with_reducible repeat (first | refine bA ?_ _ | refine bB ?_ | refine bC ?_ _)); refine bH (cs := #[.int .i64 0, .int .i64 0, .int .i64 0, .int .i64 0, .int .i64 0, .int .i64 0, .int .i64 0, .string x119007_4]) ?_ 7 _ rfl; (with_reducible repeat (first | refine bA ?_ _ | refine bB ?_ | refine bC ?_ _)); refine bH (cs := #[.int .i64 0, .int .i64 0, .int .i64 0, .int .i64 0, .int .i64 0, .int .i64 0, .int .i64 x119006_4, .string x119007_4]) ?_ 6 _ rfl; (with_reducible repeat (first | refine bA ?_ _ | refine bB ?_ | refine bC ?_ _)); refine bH (cs := #[.int .i64 0, .int .i64 0, .int .i64 0, .int .i64 0, .int .i64 0, .int .i64 x119005_4, .int .i64 x119006_4, .string x119007_4]) ?_ 5 _ rfl; (with_reducible repeat (first | refine bA ?_ _ | refine bB ?_ | refine bC ?_ _)); refine bH (cs := #[.int .i64 0, .int .i64 0, .int .i64 0, .int .i64 0, .int .i64 x119004_4, .int .i64 x119005_4, .int .i64 x119006_4, .string x119007_4]) ?_ 4 _ rfl; (with_reducible repeat (first | refine bA ?_ _ | refine bB ?_ | refine bC ?_ _)); refine bH (cs := #[.int .i64 0, .int .i64 0, .int .i64 0, .int .i64 x119003_4, .int .i64 x119004_4, .int .i64 x119005_4, .int .i64 x119006_4, .string x119007_4]) ?_ 3 _ rfl; (with_reducible repeat (first | refine bA ?_ _ | refine bB ?_ | refine bC ?_ _)); refine bH (cs := #[.int .i64 0, .int .i64 0, .int .i64 x119002_4, .int .i64 x119003_4, .int .i64 x119004_4, .int .i64 x119005_4, .int .i64 x119006_4, .string x119007_4]) ?_ 2 _ rfl; (with_reducible repeat (first | refine bA ?_ _ | refine bB ?_ | refine bC ?_ _)); refine bH (cs := #[.int .i64 0, .int .i64 x119001_4, .int .i64 x119002_4, .int .i64 x119003_4, .int .i64 x119004_4, .int .i64 x119005_4, .int .i64 x119006_4, .string x119007_4]) ?_ 1 _ rfl; (with_reducible repeat (first | refine bA ?_ _ | refine bB ?_ | refine bC ?_ _)); refine bH (cs := #[.int .i64 x119000_4, .int .i64 x119001_4, .int .i64 x119002_4, .int .i64 x119003_4, .int .i64 x119004_4, .int .i64 x119005_4, .int .i64 x119006_4, .string x119007_4]) ?_ 0 _ rfl; (with_reducible repeat (first | refine bA ?_ _ | refine bB ?_ | refine bC ?_ _)); exact BK118.out) Try.underlying32 rfl (by kernel_rfl)) rfl ?_
                 exact ⟨by first | rfl | (simp only [← hji11, ← hji30]; first | rfl | (simp [errW_none, errW_some] <;> rfl)) | (simp [*, errW_none, errW_some] <;> rfl), by repeat (first | (with_reducible first | exact HB.out | apply bE | apply bD | apply bF | refine below_set ?_ GE118.out | refine below_set ?_ GE119.out) | exact HB.out)⟩
               ·rw [if_neg c38] at H
                have c38b0 : decide (x10_4 < (rd y125 (ji30))) = false := decide_eq_false c38
                clear c38
                by_cases c50 : 0 < (x8_4.length : Int)
                ·rw [if_pos c50] at H
                 have c50b0 : decide (0 < (x8_4.length : Int)) = true := decide_eq_true c50
                 have c50b1 : decide (0 < x8_4.length) = true := decide_eq_true (by omega)
                 clear c50
                 have HC51 := zM H
                 clear H
                 obtain ⟨Ao52, co52, eo52⟩ := Kd.R_slice HO_8.out
                 subst eo52
                 have p138 : 0 ≤ (0 : Int) := (by omega)
                 have q138 : 0 < (x8_4.length : Int) := of_decide_eq_true (by first | (with_reducible assumption) | assumption)
                 obtain ⟨ad138, e138, hx138_0⟩ := Kd.at_int (Kd.R_reads' HO_8.out).2.2 0 p138 q138
                 cases e138
                 have qi138 : (0 < x8_4.length) = True := eq_true (by omega)
                 (try rw [show ((0 : Int)).toNat = 0 from rfl] at hx138_0)
                 (try rw [Addr.add_zero'] at hx138_0)
                 replace p138 := eq_true p138
                 replace q138 := eq_true q138
                 (try (have q138d := q138; simp only [List.length_drop] at q138d))
                 (try (have q138e := of_eq_true q138; rw [List.length_take] at q138e; replace q138e := Int.lt_of_lt_of_le q138e (Int.ofNat_le.mpr (Nat.min_le_left _ _)); rw [Int.ofNat_toNat] at q138e; have q138g := eq_false (Int.not_le.mpr q138e); replace q138e := eq_true q138e))
                 go_upto_block 2 with (first | ((with_reducible refine gate_dst (N := 14) rfl ?_); refine box_event ?hg (N := 14) ?hd (cs := #[.int .i64 0, .int .i64 0, .int .i64 0, .int .i64 0, .int .i64 0, .int .i64 0, .int .i64 0, .string (⟨#[]⟩ : ByteArray)]) (t := 32) ?hr ?_; (case hd => rfl); (case hg => rfl); (case hr => first | (go_simp; done) | (go_simp; rfl)); intro gb139 hg w53 hbox hb; have n0_ := zM (Kd.R_below (by (with_reducible repeat (first | apply Kd.R_alloc | apply Kd.R_drewN | apply Kd.R_drew)); exact HO_8.out) hb); have n1_ := zM (blk_below (g := gb118) (o := .cells #[.int .i64 x119000_4, .int .i64 x119001_4, .int .i64 x119002_4, .int .i64 x119003_4, .int .i64 x119004_4, .int .i64 x119005_4, .int .i64 x119006_4, .string x119007_4] 32 (0, 0)) (by (with_reducible repeat (first | refine bA ?_ _ | refine bB ?_ | refine bC ?_ _)); exact BK118.out) hb); have n2_ := zM (blk_below (g := gb119) (o := .cells #[.int .i64 0, .int .i64 0, .int .i64 0, .int .i64 0, .int .i64 0, .int .i64 0, .int .i64 0, .string (⟨#[]⟩ : ByteArray)] 32 (0, 0)) (by (with_reducible repeat (first | refine bA ?_ _ | refine bB ?_ | refine bC ?_ _)); exact BK119.out) hb); have n3_ := zM (bG (by repeat (first | (with_reducible first | exact HB.out | apply bE | apply bD | apply bF | refine below_set ?_ GE118.out | refine below_set ?_ GE119.out) | exact HB.out)) hb); have n4_ := zM (hbox); have n5_ := zM ((by rw [hg]; exact (below_size (by repeat (first | (with_reducible first | exact HB.out | apply bE | apply bD | apply bF | refine below_set ?_ GE118.out | refine below_set ?_ GE119.out) | exact HB.out))) : w.heap.size ≤ gb139)); have n6_ := zM ((by rw [hg]; exact (below_size (by repeat (first | (with_reducible first | exact HB.out | apply bE | apply bD | apply bF | refine below_set ?_ GE118.out | refine below_set ?_ GE119.out) | exact HB.out))) : w.heap.size ≤ gb139)); have n7_ := zM ((by rw [hg]; exact Nat.ne_of_lt (blk_lt (g := gb118) (o := .cells #[.int .i64 x119000_4, .int .i64 x119001_4, .int .i64 x119002_4, .int .i64 x119003_4, .int .i64 x119004_4, .int .i64 x119005_4, .int .i64 x119006_4, .string x119007_4] 32 (0, 0)) (by (with_reducible repeat (first | refine bA ?_ _ | refine bB ?_ | refine bC ?_ _)); exact BK118.out)) : gb118 ≠ gb139)); have n8_ := zM ((by rw [hg]; exact Nat.ne_of_gt (blk_lt (g := gb118) (o := .cells #[.int .i64 x119000_4, .int .i64 x119001_4, .int .i64 x119002_4, .int .i64 x119003_4, .int .i64 x119004_4, .int .i64 x119005_4, .int .i64 x119006_4, .string x119007_4] 32 (0, 0)) (by (with_reducible repeat (first | refine bA ?_ _ | refine bB ?_ | refine bC ?_ _)); exact BK118.out)) : gb139 ≠ gb118)); have n9_ := zM ((by rw [hg]; exact Nat.ne_of_lt (blk_lt (g := gb119) (o := .cells #[.int .i64 0, .int .i64 0, .int .i64 0, .int .i64 0, .int .i64 0, .int .i64 0, .int .i64 0, .string (⟨#[]⟩ : ByteArray)] 32 (0, 0)) (by (with_reducible repeat (first | refine bA ?_ _ | refine bB ?_ | refine bC ?_ _)); exact BK119.out)) : gb119 ≠ gb139)); have n10_ := zM ((by rw [hg]; exact Nat.ne_of_gt (blk_lt (g := gb119) (o := .cells #[.int .i64 0, .int .i64 0, .int .i64 0, .int .i64 0, .int .i64 0, .int .i64 0, .int .i64 0, .string (⟨#[]⟩ : ByteArray)] 32 (0, 0)) (by (with_reducible repeat (first | refine bA ?_ _ | refine bB ?_ | refine bC ?_ _)); exact BK119.out)) : gb139 ≠ gb119)); clear HO_8; clear BK118; clear BK119; clear HB; have HO_8 := n0_; have BK118 := n1_; have BK119 := n2_; have HB := n3_; have BK139 := n4_; have GW139 := n5_; have GE139 := n6_; have NB118_139 := n7_; have NB139_118 := n8_; have NB119_139 := n9_; have NB139_119 := n10_; clear n0_ n1_ n2_ n3_ n4_ n5_ n6_ n7_ n8_ n9_ n10_; clear hb hbox hg; have hnb54 := NB139_118.out; have hnc54 := NB118_139.out; have hnb55 := NB139_119.out; have hnc55 := NB119_139.out; have hcz56_0 : w53.cell? ⟨gb139, 0, none⟩ = some (.int .i64 0) := (blk_cell BK139.out 0).trans rfl; have hcz56_1 : w53.cell? ⟨gb139, 1, none⟩ = some (.int .i64 0) := (blk_cell BK139.out 1).trans rfl; have hcz56_2 : w53.cell? ⟨gb139, 2, none⟩ = some (.int .i64 0) := (blk_cell BK139.out 2).trans rfl; have hcz56_3 : w53.cell? ⟨gb139, 3, none⟩ = some (.int .i64 0) := (blk_cell BK139.out 3).trans rfl; have hcz56_4 : w53.cell? ⟨gb139, 4, none⟩ = some (.int .i64 0) := (blk_cell BK139.out 4).trans rfl; have hcz56_5 : w53.cell? ⟨gb139, 5, none⟩ = some (.int .i64 0) := (blk_cell BK139.out 5).trans rfl; have hcz56_6 : w53.cell? ⟨gb139, 6, none⟩ = some (.int .i64 0) := (blk_cell BK139.out 6).trans rfl; have hcz56_7 : w53.cell? ⟨gb139, 7, none⟩ = some (.string (⟨#[]⟩ : ByteArray)) := (blk_cell BK139.out 7).trans rfl; have hfz56_0 := blk_frozen BK139.out 0; have hfz56_1 := blk_frozen BK139.out 1; have hfz56_2 := blk_frozen BK139.out 2; have hfz56_3 := blk_frozen BK139.out 3; have hfz56_4 := blk_frozen BK139.out 4; have hfz56_5 := blk_frozen BK139.out 5; have hfz56_6 := blk_frozen BK139.out 6; have hfz56_7 := blk_frozen BK139.out 7))
                 (try simp only [Act.put, zS, z0, z1])
                 go_cut [9] (fun v9 wc => ∃ (kq : Nat) (x9_50 : Int) (x119000_50 : Int) (x119001_50 : Int) (x119002_50 : Int) (x119003_50 : Int) (x119004_50 : Int) (x119005_50 : Int) (x119006_50 : Int) (x119007_50 : ByteArray) (x140002_50 : Int) (x140003_50 : Int) (x140004_50 : Int) (x140005_50 : Int) (x140006_50 : Int) (x140007_50 : ByteArray), v9 = .int .i64 x9_50 ∧ Aside0 (spec_Unpack.j4 kq yy17 x9_50 0 0 0 0 0 0 0 (⟨#[]⟩ : ByteArray) (ji30) (rd x8_4 0) x140002_50 x140003_50 x140004_50 x140005_50 x140006_50 x140007_50 = some (r1, r2, r3, r4, r5, r6, r7, r8, r9)) ∧ Aside0 (kq ≤ k4) ∧ Aside0 (wc.heap[gb118]? = some (.cells #[.int .i64 x119000_50, .int .i64 x119001_50, .int .i64 x119002_50, .int .i64 x119003_50, .int .i64 x119004_50, .int .i64 x119005_50, .int .i64 x119006_50, .string x119007_50] 32 (0, 0))) ∧ Aside0 (wc.heap[gb119]? = some (.cells #[.int .i64 0, .int .i64 0, .int .i64 0, .int .i64 0, .int .i64 0, .int .i64 0, .int .i64 0, .string (⟨#[]⟩ : ByteArray)] 32 (0, 0))) ∧ Aside0 (wc.heap[gb139]? = some (.cells #[.int .i64 (ji30), .int .i64 (rd x8_4 0), .int .i64 x140002_50, .int .i64 x140003_50, .int .i64 x140004_50, .int .i64 x140005_50, .int .i64 x140006_50, .string x140007_50] 32 (0, 0))) ∧ Aside0 (Below w.heap.size w wc))
                 case first =>
                  have H := HC51.out
                  clear HC51
                  by_cases c57 : (ji30) = 3
                  ·rw [if_pos c57] at H
                   have c57b0 : ((ji30) == 3) = true := beq_iff_eq.mpr c57
                   have c57b1 : ((ji30) != 3) = false := bne_eq_false_iff_eq.mpr c57
                   clear c57
                   (first | rw [c57b0] | (simp only [i64_w, i32_w]; rw [c57b0]) | skip)
                   by_cases c58 : 1 < (x8_4.length : Int)
                   ·rw [if_pos c58] at H
                    have c58b0 : decide (1 < (x8_4.length : Int)) = true := decide_eq_true c58
                    have c58b1 : decide (1 < x8_4.length) = true := decide_eq_true (by omega)
                    clear c58
                    by_cases c59 : 2 < (x8_4.length : Int)
                    ·rw [if_pos c59] at H
                     have c59b0 : decide (2 < (x8_4.length : Int)) = true := decide_eq_true c59
                     have c59b1 : decide (2 < x8_4.length) = true := decide_eq_true (by omega)
                     clear c59
                     by_cases c60 : (wrap64 ((yy17.length : Int) - x9_4)) < (rd x8_4 2)
                     ·rw [if_pos c60] at H
                      have c60b0 : decide ((wrap64 ((yy17.length : Int) - x9_4)) < (rd x8_4 2)) = true := decide_eq_true c60
                      clear c60
                      simp only [zI, zJ] at H
                      obtain ⟨rfl, rfl, rfl, rfl, rfl, rfl, rfl, rfl, rfl⟩ := H
                      have p140 : 0 ≤ (1 : Int) := (by omega)
                      have q140 : 1 < (x8_4.length : Int) := of_decide_eq_true (by first | (with_reducible assumption) | assumption)
                      obtain ⟨ad140, e140, hx140_0⟩ := Kd.at_int (Kd.R_reads' HO_8.out).2.2 1 p140 q140
                      obtain rfl : ad138 = ad140 := (by injection e140)
                      (try simp only [show (1 : Int).toNat = 1 from rfl, Nat.reduceMul, Nat.reduceEqDiff, Go.Addr.add, ↓reduceIte] at hx140_0)
                      have qi140 : (1 < x8_4.length) = True := eq_true (by omega)
                      (try rw [show ((1 : Int)).toNat = 1 from rfl] at hx140_0)
                      have hn140_0 : ad138.block ≠ gb139 := Kd.own_blk (Kd.R_ne HO_8.out BK139.out (by decide))
                      have hn140_1 : ad138.block ≠ gb139 := Kd.own_blk (Kd.R_ne HO_8.out BK139.out (by decide))
                      have hn140_2 : ad138.block ≠ gb139 := Kd.own_blk (Kd.R_ne HO_8.out BK139.out (by decide))
                      have hn140_3 : ad138.block ≠ gb139 := Kd.own_blk (Kd.R_ne HO_8.out BK139.out (by decide))
                      have hn140_4 : ad138.block ≠ gb139 := Kd.own_blk (Kd.R_ne HO_8.out BK139.out (by decide))
                      have hn140_5 : ad138.block ≠ gb139 := Kd.own_blk (Kd.R_ne HO_8.out BK139.out (by decide))
                      have hn140_6 : ad138.block ≠ gb139 := Kd.own_blk (Kd.R_ne HO_8.out BK139.out (by decide))
                      have hn140_7 : ad138.block ≠ gb139 := Kd.own_blk (Kd.R_ne HO_8.out BK139.out (by decide))
                      replace hx140_0 := (cell_far (p := ⟨gb139, 0, none⟩) (by first | (rw [add_block]; exact hn140_0) | (show (Addr.add _ _).block ≠ _; rw [add_block]; exact hn140_0) | exact hn140_0) (.int .i64 (ji30))).trans hx140_0
                      replace hx140_0 := (cell_far (p := ⟨gb139, 1, none⟩) (by first | (rw [add_block]; exact hn140_1) | (show (Addr.add _ _).block ≠ _; rw [add_block]; exact hn140_1) | exact hn140_1) (.int .i64 (rd x8_4 0))).trans hx140_0
                      replace hx140_0 := (cell_far (p := ⟨gb139, 2, none⟩) (by first | (rw [add_block]; exact hn140_2) | (show (Addr.add _ _).block ≠ _; rw [add_block]; exact hn140_2) | exact hn140_2) (.int .i64 0)).trans hx140_0
                      replace hx140_0 := (cell_far (p := ⟨gb139, 3, none⟩) (by first | (rw [add_block]; exact hn140_3) | (show (Addr.add _ _).block ≠ _; rw [add_block]; exact hn140_3) | exact hn140_3) (.int .i64 0)).trans hx140_0
                      replace hx140_0 := (cell_far (p := ⟨gb139, 4, none⟩) (by first | (rw [add_block]; exact hn140_4) | (show (Addr.add _ _).block ≠ _; rw [add_block]; exact hn140_4) | exact hn140_4) (.int .i64 0)).trans hx140_0
                      replace hx140_0 := (cell_far (p := ⟨gb139, 5, none⟩) (by first | (rw [add_block]; exact hn140_5) | (show (Addr.add _ _).block ≠ _; rw [add_block]; exact hn140_5) | exact hn140_5) (.int .i64 0)).trans hx140_0
                      replace hx140_0 := (cell_far (p := ⟨gb139, 6, none⟩) (by first | (rw [add_block]; exact hn140_6) | (show (Addr.add _ _).block ≠ _; rw [add_block]; exact hn140_6) | exact hn140_6) (.int .i64 0)).trans hx140_0
                      replace hx140_0 := (cell_far (p := ⟨gb139, 7, none⟩) (by first | (rw [add_block]; exact hn140_7) | (show (Addr.add _ _).block ≠ _; rw [add_block]; exact hn140_7) | exact hn140_7) (.string (⟨#[]⟩ : ByteArray))).trans hx140_0
                      clear hn140_0
                      clear hn140_1
                      clear hn140_2
                      clear hn140_3
                      clear hn140_4
                      clear hn140_5
                      clear hn140_6
                      clear hn140_7
                      replace p140 := eq_true p140
                      replace q140 := eq_true q140
                      (try (have q140d := q140; simp only [List.length_drop] at q140d))
                      (try (have q140e := of_eq_true q140; rw [List.length_take] at q140e; replace q140e := Int.lt_of_lt_of_le q140e (Int.ofNat_le.mpr (Nat.min_le_left _ _)); rw [Int.ofNat_toNat] at q140e; have q140g := eq_false (Int.not_le.mpr q140e); replace q140e := eq_true q140e))
                      have hnb61 := NB139_118.out
                      have hnc61 := NB118_139.out
                      have hnb62 := NB139_119.out
                      have hnc62 := NB119_139.out
                      have hcz63_0 : w53.cell? ⟨gb139, 0, none⟩ = some (.int .i64 0) := (blk_cell BK139.out 0).trans rfl
                      have hcz63_1 : w53.cell? ⟨gb139, 1, none⟩ = some (.int .i64 0) := (blk_cell BK139.out 1).trans rfl
                      have hcz63_2 : w53.cell? ⟨gb139, 2, none⟩ = some (.int .i64 0) := (blk_cell BK139.out 2).trans rfl
                      have hcz63_3 : w53.cell? ⟨gb139, 3, none⟩ = some (.int .i64 0) := (blk_cell BK139.out 3).trans rfl
                      have hcz63_4 : w53.cell? ⟨gb139, 4, none⟩ = some (.int .i64 0) := (blk_cell BK139.out 4).trans rfl
                      have hcz63_5 : w53.cell? ⟨gb139, 5, none⟩ = some (.int .i64 0) := (blk_cell BK139.out 5).trans rfl
                      have hcz63_6 : w53.cell? ⟨gb139, 6, none⟩ = some (.int .i64 0) := (blk_cell BK139.out 6).trans rfl
                      have hcz63_7 : w53.cell? ⟨gb139, 7, none⟩ = some (.string (⟨#[]⟩ : ByteArray)) := (blk_cell BK139.out 7).trans rfl
                      have hfz63_0 := blk_frozen BK139.out 0
                      have hfz63_1 := blk_frozen BK139.out 1
                      have hfz63_2 := blk_frozen BK139.out 2
                      have hfz63_3 := blk_frozen BK139.out 3
                      have hfz63_4 := blk_frozen BK139.out 4
                      have hfz63_5 := blk_frozen BK139.out 5
                      have hfz63_6 := blk_frozen BK139.out 6
                      have hfz63_7 := blk_frozen BK139.out 7
                      have p141 : 0 ≤ (2 : Int) := (by omega)
                      have q141 : 2 < (x8_4.length : Int) := of_decide_eq_true (by first | (with_reducible assumption) | assumption)
                      obtain ⟨ad141, e141, hx141_0⟩ := Kd.at_int (Kd.R_reads' HO_8.out).2.2 2 p141 q141
                      obtain rfl : ad138 = ad141 := (by injection e141)
                      (try simp only [show (2 : Int).toNat = 2 from rfl, Nat.reduceMul, Nat.reduceEqDiff, Go.Addr.add, ↓reduceIte] at hx141_0)
                      have qi141 : (2 < x8_4.length) = True := eq_true (by omega)
                      (try rw [show ((2 : Int)).toNat = 2 from rfl] at hx141_0)
                      have hn141_0 : ad138.block ≠ gb139 := Kd.own_blk (Kd.R_ne HO_8.out BK139.out (by decide))
                      have hn141_1 : ad138.block ≠ gb139 := Kd.own_blk (Kd.R_ne HO_8.out BK139.out (by decide))
                      have hn141_2 : ad138.block ≠ gb139 := Kd.own_blk (Kd.R_ne HO_8.out BK139.out (by decide))
                      have hn141_3 : ad138.block ≠ gb139 := Kd.own_blk (Kd.R_ne HO_8.out BK139.out (by decide))
                      have hn141_4 : ad138.block ≠ gb139 := Kd.own_blk (Kd.R_ne HO_8.out BK139.out (by decide))
                      have hn141_5 : ad138.block ≠ gb139 := Kd.own_blk (Kd.R_ne HO_8.out BK139.out (by decide))
                      have hn141_6 : ad138.block ≠ gb139 := Kd.own_blk (Kd.R_ne HO_8.out BK139.out (by decide))
                      have hn141_7 : ad138.block ≠ gb139 := Kd.own_blk (Kd.R_ne HO_8.out BK139.out (by decide))
                      have hn141_8 : ad138.block ≠ gb139 := Kd.own_blk (Kd.R_ne HO_8.out BK139.out (by decide))
                      replace hx141_0 := (cell_far (p := ⟨gb139, 0, none⟩) (by first | (rw [add_block]; exact hn141_0) | (show (Addr.add _ _).block ≠ _; rw [add_block]; exact hn141_0) | exact hn141_0) (.int .i64 (ji30))).trans hx141_0
                      replace hx141_0 := (cell_far (p := ⟨gb139, 1, none⟩) (by first | (rw [add_block]; exact hn141_1) | (show (Addr.add _ _).block ≠ _; rw [add_block]; exact hn141_1) | exact hn141_1) (.int .i64 (rd x8_4 0))).trans hx141_0
                      replace hx141_0 := (cell_far (p := ⟨gb139, 2, none⟩) (by first | (rw [add_block]; exact hn141_2) | (show (Addr.add _ _).block ≠ _; rw [add_block]; exact hn141_2) | exact hn141_2) (.int .i64 0)).trans hx141_0
                      replace hx141_0 := (cell_far (p := ⟨gb139, 3, none⟩) (by first | (rw [add_block]; exact hn141_3) | (show (Addr.add _ _).block ≠ _; rw [add_block]; exact hn141_3) | exact hn141_3) (.int .i64 0)).trans hx141_0
                      replace hx141_0 := (cell_far (p := ⟨gb139, 4, none⟩) (by first | (rw [add_block]; exact hn141_4) | (show (Addr.add _ _).block ≠ _; rw [add_block]; exact hn141_4) | exact hn141_4) (.int .i64 0)).trans hx141_0
                      replace hx141_0 := (cell_far (p := ⟨gb139, 5, none⟩) (by first | (rw [add_block]; exact hn141_5) | (show (Addr.add _ _).block ≠ _; rw [add_block]; exact hn141_5) | exact hn141_5) (.int .i64 0)).trans hx141_0
                      replace hx141_0 := (cell_far (p := ⟨gb139, 6, none⟩) (by first | (rw [add_block]; exact hn141_6) | (show (Addr.add _ _).block ≠ _; rw [add_block]; exact hn141_6) | exact hn141_6) (.int .i64 0)).trans hx141_0
                      replace hx141_0 := (cell_far (p := ⟨gb139, 7, none⟩) (by first | (rw [add_block]; exact hn141_7) | (show (Addr.add _ _).block ≠ _; rw [add_block]; exact hn141_7) | exact hn141_7) (.string (⟨#[]⟩ : ByteArray))).trans hx141_0
                      replace hx141_0 := (cell_far (p := ⟨gb139, 6, none⟩) (by first | (rw [add_block]; exact hn141_8) | (show (Addr.add _ _).block ≠ _; rw [add_block]; exact hn141_8) | exact hn141_8) (.int .i64 (rd x8_4 1))).trans hx141_0
                      clear hn141_0
                      clear hn141_1
                      clear hn141_2
                      clear hn141_3
                      clear hn141_4
                      clear hn141_5
                      clear hn141_6
                      clear hn141_7
                      clear hn141_8
                      replace p141 := eq_true p141
                      replace q141 := eq_true q141
                      (try (have q141d := q141; simp only [List.length_drop] at q141d))
                      (try (have q141e := of_eq_true q141; rw [List.length_take] at q141e; replace q141e := Int.lt_of_lt_of_le q141e (Int.ofNat_le.mpr (Nat.min_le_left _ _)); rw [Int.ofNat_toNat] at q141e; have q141g := eq_false (Int.not_le.mpr q141e); replace q141e := eq_true q141e))
                      have hnb64 := NB119_118.out
                      have hnc64 := NB118_119.out
                      have hcz65_0 : w53.cell? ⟨gb119, 0, none⟩ = some (.int .i64 0) := (blk_cell BK119.out 0).trans rfl
                      have hcz65_1 : w53.cell? ⟨gb119, 1, none⟩ = some (.int .i64 0) := (blk_cell BK119.out 1).trans rfl
                      have hcz65_2 : w53.cell? ⟨gb119, 2, none⟩ = some (.int .i64 0) := (blk_cell BK119.out 2).trans rfl
                      have hcz65_3 : w53.cell? ⟨gb119, 3, none⟩ = some (.int .i64 0) := (blk_cell BK119.out 3).trans rfl
                      have hcz65_4 : w53.cell? ⟨gb119, 4, none⟩ = some (.int .i64 0) := (blk_cell BK119.out 4).trans rfl
                      have hcz65_5 : w53.cell? ⟨gb119, 5, none⟩ = some (.int .i64 0) := (blk_cell BK119.out 5).trans rfl
                      have hcz65_6 : w53.cell? ⟨gb119, 6, none⟩ = some (.int .i64 0) := (blk_cell BK119.out 6).trans rfl
                      have hcz65_7 : w53.cell? ⟨gb119, 7, none⟩ = some (.string (⟨#[]⟩ : ByteArray)) := (blk_cell BK119.out 7).trans rfl
                      have hfz65_0 := blk_frozen BK119.out 0
                      have hfz65_1 := blk_frozen BK119.out 1
                      have hfz65_2 := blk_frozen BK119.out 2
                      have hfz65_3 := blk_frozen BK119.out 3
                      have hfz65_4 := blk_frozen BK119.out 4
                      have hfz65_5 := blk_frozen BK119.out 5
                      have hfz65_6 := blk_frozen BK119.out 6
                      have hfz65_7 := blk_frozen BK119.out 7
                      have hcz66_0 : w53.cell? ⟨gb118, 0, none⟩ = some (.int .i64 x119000_4) := (blk_cell BK118.out 0).trans rfl
                      have hcz66_1 : w53.cell? ⟨gb118, 1, none⟩ = some (.int .i64 x119001_4) := (blk_cell BK118.out 1).trans rfl
                      have hcz66_2 : w53.cell? ⟨gb118, 2, none⟩ = some (.int .i64 x119002_4) := (blk_cell BK118.out 2).trans rfl
                      have hcz66_3 : w53.cell? ⟨gb118, 3, none⟩ = some (.int .i64 x119003_4) := (blk_cell BK118.out 3).trans rfl
                      have hcz66_4 : w53.cell? ⟨gb118, 4, none⟩ = some (.int .i64 x119004_4) := (blk_cell BK118.out 4).trans rfl
                      have hcz66_5 : w53.cell? ⟨gb118, 5, none⟩ = some (.int .i64 x119005_4) := (blk_cell BK118.out 5).trans rfl
                      have hcz66_6 : w53.cell? ⟨gb118, 6, none⟩ = some (.int .i64 x119006_4) := (blk_cell BK118.out 6).trans rfl
                      have hcz66_7 : w53.cell? ⟨gb118, 7, none⟩ = some (.string x119007_4) := (blk_cell BK118.out 7).trans rfl
                      have hfz66_0 := blk_frozen BK118.out 0
                      have hfz66_1 := blk_frozen BK118.out 1
                      have hfz66_2 := blk_frozen BK118.out 2
                      have hfz66_3 := blk_frozen BK118.out 3
                      have hfz66_4 := blk_frozen BK118.out 4
                      have hfz66_5 := blk_frozen BK118.out 5
                      have hfz66_6 := blk_frozen BK118.out 6
                      have hfz66_7 := blk_frozen BK118.out 7
                      go_wp2
                      refine bodyPost_ret (results_ct rfl _ _ gb118 32 #[.int .i64 0, .int .i64 0, .int .i64 0, .int .i64 0, .int .i64 0, .int .i64 0, .int .i64 0, .string (⟨#[]⟩ : ByteArray)] (0, 0) _ rfl (by (with_reducible repeat (first | refine bA ?_ _ | refine bB ?_ | refine bC ?_ _)); refine bH (cs := #[.int .i64 0, .int .i64 0, .int .i64 0, .int .i64 0, .int .i64 0, .int .i64 0, .int .i64 0, .string x119007_4]) ?_ 7 _ rfl; (with_reducible repeat (first | refine bA ?_ _ | refine bB ?_ | refine bC ?_ _)); refine bH (cs := #[.int .i64 0, .int .i64 0, .int .i64 0, .int .i64 0, .int .i64 0, .int .i64 0, .int .i64 x119006_4, .string x119007_4]) ?_ 6 _ rfl; (with_reducible repeat (first | refine bA ?_ _ | refine bB ?_ | refine bC ?_ _)); refine bH (cs := #[.int .i64 0, .int .i64 0, .int .i64 0, .int .i64 0, .int .i64 0, .int .i64 x119005_4, .int .i64 x119006_4, .string x119007_4]) ?_ 5 _ rfl; (with_reducible repeat (first | refine bA ?_ _ | refine bB ?_ | refine bC ?_ _)); refine bH (cs := #[.int .i64 0, .int .i64 0, .int .i64 0, .int .i64 0, .int .i64 x119004_4, .int .i64 x119005_4, .int .i64 x119006_4, .string x119007_4]) ?_ 4 _ rfl; (with_reducible repeat (first | refine bA ?_ _ | refine bB ?_ | refine bC ?_ _)); refine bH (cs := #[.int .i64 0, .int .i64 0, .int .i64 0, .int .i64 x119003_4, .int .i64 x119004_4, .int .i64 x119005_4, .int .i64 x119006_4, .string x119007_4]) ?_ 3 _ rfl; (with_reducible repeat (first | refine bA ?_ _ | refine bB ?_ | refine bC ?_ _)); refine bH (cs := #[.int .i64 0, .int .i64 0, .int .i64 x119002_4, .int .i64 x119003_4, .int .i64 x119004_4, .int .i64 x119005_4, .int .i64 x119006_4, .string x119007_4]) ?_ 2 _ rfl; (with_reducible repeat (first | refine bA ?_ _ | refine bB ?_ | refine bC ?_ _)); refine bH (cs := #[.int .i64 0, .int .i64 x119001_4, .int .i64 x119002_4, .int .i64 x119003_4, .int .i64 x119004_4, .int .i64 x119005_4, .int .i64 x119006_4, .string x119007_4]) ?_ 1 _ rfl; (with_reducible repeat (first | refine bA ?_ _ | refine bB ?_ | refine bC ?_ _)); refine bH (cs := #[.int .i64 x119000_4, .int .i64 x119001_4, .int .i64 x119002_4, .int .i64 x119003_4, .int .i64 x119004_4, .int .i64 x119005_4, .int .i64 x119006_4, .string x119007_4]) ?_ 0 _ rfl; (with_reducible repeat (first | refine bA ?_ _ | refine bB ?_ | refine bC ?_ _)); refine blk_far ?_ NB118_139.out _; (with_reducible repeat (first | refine bA ?_ _ | refine bB ?_ | refine bC ?_ _)); refine blk_far ?_ NB118_139.out _; (with_reducible repeat (first | refine bA ?_ _ | refine bB ?_ | refine bC ?_ _)); refine blk_far ?_ NB118_139.out _; (with_reducible repeat (first | refine bA ?_ _ | refine bB ?_ | refine bC ?_ _)); refine blk_far ?_ NB118_139.out _; (with_reducible repeat (first | refine bA ?_ _ | refine bB ?_ | refine bC ?_ _)); refine blk_far ?_ NB118_139.out _; (with_reducible repeat (first | refine bA ?_ _ | refine bB ?_ | refine bC ?_ _)); refine blk_far ?_ NB118_139.out _; (with_reducible repeat (first | refine bA ?_ _ | refine bB ?_ | refine bC ?_ _)); refine blk_far ?_ NB118_139.out _; (with_reducible repeat (first | refine bA ?_ _ | refine bB ?_ | refine bC ?_ _)); refine blk_far ?_ NB118_139.out _; (with_reducible repeat (first | refine bA ?_ _ | refine bB ?_ | refine bC ?_ _)); refine blk_far ?_ NB118_139.out _; (with_reducible repeat (first | refine bA ?_ _ | refine bB ?_ | refine bC ?_ _)); exact BK118.out) Try.underlying32 rfl (by kernel_rfl)) rfl ?_
                      exact ⟨by first | rfl | (simp only [← hji11, ← hji30]; first | rfl | (simp [errW_none, errW_some] <;> rfl)) | (simp [*, errW_none, errW_some] <;> rfl), by repeat (first | (with_reducible first | exact HB.out | apply bE | apply bD | apply bF | refine below_set ?_ GE118.out | refine below_set ?_ GE119.out | refine below_set ?_ GE139.out) | exact HB.out)⟩
                     ·rw [if_neg c60] at H
                      have c60b0 : decide ((wrap64 ((yy17.length : Int) - x9_4)) < (rd x8_4 2)) = false := decide_eq_false c60
                      clear c60
                      by_cases c67 : 0 ≤ x9_4
                      ·rw [if_pos c67] at H
                       have c67b0 := eq_true c67
                       have c67b1 : decide (0 ≤ x9_4) = true := decide_eq_true c67
                       clear c67
                       by_cases c68 : x9_4 ≤ (wrap64 (x9_4 + (rd x8_4 2)))
                       ·rw [if_pos c68] at H
                        have c68b0 := eq_true c68
                        have c68b1 : decide (x9_4 ≤ (wrap64 (x9_4 + (rd x8_4 2)))) = true := decide_eq_true c68
                        by_cases c69 : (wrap64 (x9_4 + (rd x8_4 2))) ≤ (yy17.length : Int)
                        ·rw [if_pos c69] at H
                         have c69b0 := eq_true c69
                         have c69b1 : decide ((wrap64 (x9_4 + (rd x8_4 2))) ≤ (yy17.length : Int)) = true := decide_eq_true c69
                         have H' := zM H
                         clear H
                         have p140 : 0 ≤ (1 : Int) := (by omega)
                         have q140 : 1 < (x8_4.length : Int) := of_decide_eq_true (by first | (with_reducible assumption) | assumption)
                         obtain ⟨ad140, e140, hx140_0⟩ := Kd.at_int (Kd.R_reads' HO_8.out).2.2 1 p140 q140
                         obtain rfl : ad138 = ad140 := (by injection e140)
                         (try simp only [show (1 : Int).toNat = 1 from rfl, Nat.reduceMul, Nat.reduceEqDiff, Go.Addr.add, ↓reduceIte] at hx140_0)
                         have qi140 : (1 < x8_4.length) = True := eq_true (by omega)
                         (try rw [show ((1 : Int)).toNat = 1 from rfl] at hx140_0)
                         have hn140_0 : ad138.block ≠ gb139 := Kd.own_blk (Kd.R_ne HO_8.out BK139.out (by decide))
                         have hn140_1 : ad138.block ≠ gb139 := Kd.own_blk (Kd.R_ne HO_8.out BK139.out (by decide))
                         have hn140_2 : ad138.block ≠ gb139 := Kd.own_blk (Kd.R_ne HO_8.out BK139.out (by decide))
                         have hn140_3 : ad138.block ≠ gb139 := Kd.own_blk (Kd.R_ne HO_8.out BK139.out (by decide))
                         have hn140_4 : ad138.block ≠ gb139 := Kd.own_blk (Kd.R_ne HO_8.out BK139.out (by decide))
                         have hn140_5 : ad138.block ≠ gb139 := Kd.own_blk (Kd.R_ne HO_8.out BK139.out (by decide))
                         have hn140_6 : ad138.block ≠ gb139 := Kd.own_blk (Kd.R_ne HO_8.out BK139.out (by decide))
                         have hn140_7 : ad138.block ≠ gb139 := Kd.own_blk (Kd.R_ne HO_8.out BK139.out (by decide))
                         replace hx140_0 := (cell_far (p := ⟨gb139, 0, none⟩) (by first | (rw [add_block]; exact hn140_0) | (show (Addr.add _ _).block ≠ _; rw [add_block]; exact hn140_0) | exact hn140_0) (.int .i64 (ji30))).trans hx140_0
                         replace hx140_0 := (cell_far (p := ⟨gb139, 1, none⟩) (by first | (rw [add_block]; exact hn140_1) | (show (Addr.add _ _).block ≠ _; rw [add_block]; exact hn140_1) | exact hn140_1) (.int .i64 (rd x8_4 0))).trans hx140_0
                         replace hx140_0 := (cell_far (p := ⟨gb139, 2, none⟩) (by first | (rw [add_block]; exact hn140_2) | (show (Addr.add _ _).block ≠ _; rw [add_block]; exact hn140_2) | exact hn140_2) (.int .i64 0)).trans hx140_0
                         replace hx140_0 := (cell_far (p := ⟨gb139, 3, none⟩) (by first | (rw [add_block]; exact hn140_3) | (show (Addr.add _ _).block ≠ _; rw [add_block]; exact hn140_3) | exact hn140_3) (.int .i64 0)).trans hx140_0
                         replace hx140_0 := (cell_far (p := ⟨gb139, 4, none⟩) (by first | (rw [add_block]; exact hn140_4) | (show (Addr.add _ _).block ≠ _; rw [add_block]; exact hn140_4) | exact hn140_4) (.int .i64 0)).trans hx140_0
                         replace hx140_0 := (cell_far (p := ⟨gb139, 5, none⟩) (by first | (rw [add_block]; exact hn140_5) | (show (Addr.add _ _).block ≠ _; rw [add_block]; exact hn140_5) | exact hn140_5) (.int .i64 0)).trans hx140_0
                         replace hx140_0 := (cell_far (p := ⟨gb139, 6, none⟩) (by first | (rw [add_block]; exact hn140_6) | (show (Addr.add _ _).block ≠ _; rw [add_block]; exact hn140_6) | exact hn140_6) (.int .i64 0)).trans hx140_0
                         replace hx140_0 := (cell_far (p := ⟨gb139, 7, none⟩) (by first | (rw [add_block]; exact hn140_7) | (show (Addr.add _ _).block ≠ _; rw [add_block]; exact hn140_7) | exact hn140_7) (.string (⟨#[]⟩ : ByteArray))).trans hx140_0
                         clear hn140_0
                         clear hn140_1
                         clear hn140_2
                         clear hn140_3
                         clear hn140_4
                         clear hn140_5
                         clear hn140_6
                         clear hn140_7
                         replace p140 := eq_true p140
                         replace q140 := eq_true q140
                         (try (have q140d := q140; simp only [List.length_drop] at q140d))
                         (try (have q140e := of_eq_true q140; rw [List.length_take] at q140e; replace q140e := Int.lt_of_lt_of_le q140e (Int.ofNat_le.mpr (Nat.min_le_left _ _)); rw [Int.ofNat_toNat] at q140e; have q140g := eq_false (Int.not_le.mpr q140e); replace q140e := eq_true q140e))
                         have hnb70 := NB139_118.out
                         have hnc70 := NB118_139.out
                         have hnb71 := NB139_119.out
                         have hnc71 := NB119_139.out
                         have hcz72_0 : w53.cell? ⟨gb139, 0, none⟩ = some (.int .i64 0) := (blk_cell BK139.out 0).trans rfl
                         have hcz72_1 : w53.cell? ⟨gb139, 1, none⟩ = some (.int .i64 0) := (blk_cell BK139.out 1).trans rfl
                         have hcz72_2 : w53.cell? ⟨gb139, 2, none⟩ = some (.int .i64 0) := (blk_cell BK139.out 2).trans rfl
                         have hcz72_3 : w53.cell? ⟨gb139, 3, none⟩ = some (.int .i64 0) := (blk_cell BK139.out 3).trans rfl
                         have hcz72_4 : w53.cell? ⟨gb139, 4, none⟩ = some (.int .i64 0) := (blk_cell BK139.out 4).trans rfl
                         have hcz72_5 : w53.cell? ⟨gb139, 5, none⟩ = some (.int .i64 0) := (blk_cell BK139.out 5).trans rfl
                         have hcz72_6 : w53.cell? ⟨gb139, 6, none⟩ = some (.int .i64 0) := (blk_cell BK139.out 6).trans rfl
                         have hcz72_7 : w53.cell? ⟨gb139, 7, none⟩ = some (.string (⟨#[]⟩ : ByteArray)) := (blk_cell BK139.out 7).trans rfl
                         have hfz72_0 := blk_frozen BK139.out 0
                         have hfz72_1 := blk_frozen BK139.out 1
                         have hfz72_2 := blk_frozen BK139.out 2
                         have hfz72_3 := blk_frozen BK139.out 3
                         have hfz72_4 := blk_frozen BK139.out 4
                         have hfz72_5 := blk_frozen BK139.out 5
                         have hfz72_6 := blk_frozen BK139.out 6
                         have hfz72_7 := blk_frozen BK139.out 7
                         have p141 : 0 ≤ (2 : Int) := (by omega)
                         have q141 : 2 < (x8_4.length : Int) := of_decide_eq_true (by first | (with_reducible assumption) | assumption)
                         obtain ⟨ad141, e141, hx141_0⟩ := Kd.at_int (Kd.R_reads' HO_8.out).2.2 2 p141 q141
                         obtain rfl : ad138 = ad141 := (by injection e141)
                         (try simp only [show (2 : Int).toNat = 2 from rfl, Nat.reduceMul, Nat.reduceEqDiff, Go.Addr.add, ↓reduceIte] at hx141_0)
                         have qi141 : (2 < x8_4.length) = True := eq_true (by omega)
                         (try rw [show ((2 : Int)).toNat = 2 from rfl] at hx141_0)
                         have hn141_0 : ad138.block ≠ gb139 := Kd.own_blk (Kd.R_ne HO_8.out BK139.out (by decide))
                         have hn141_1 : ad138.block ≠ gb139 := Kd.own_blk (Kd.R_ne HO_8.out BK139.out (by decide))
                         have hn141_2 : ad138.block ≠ gb139 := Kd.own_blk (Kd.R_ne HO_8.out BK139.out (by decide))
                         have hn141_3 : ad138.block ≠ gb139 := Kd.own_blk (Kd.R_ne HO_8.out BK139.out (by decide))
                         have hn141_4 : ad138.block ≠ gb139 := Kd.own_blk (Kd.R_ne HO_8.out BK139.out (by decide))
                         have hn141_5 : ad138.block ≠ gb139 := Kd.own_blk (Kd.R_ne HO_8.out BK139.out (by decide))
                         have hn141_6 : ad138.block ≠ gb139 := Kd.own_blk (Kd.R_ne HO_8.out BK139.out (by decide))
                         have hn141_7 : ad138.block ≠ gb139 := Kd.own_blk (Kd.R_ne HO_8.out BK139.out (by decide))
                         have hn141_8 : ad138.block ≠ gb139 := Kd.own_blk (Kd.R_ne HO_8.out BK139.out (by decide))
                         replace hx141_0 := (cell_far (p := ⟨gb139, 0, none⟩) (by first | (rw [add_block]; exact hn141_0) | (show (Addr.add _ _).block ≠ _; rw [add_block]; exact hn141_0) | exact hn141_0) (.int .i64 (ji30))).trans hx141_0
                         replace hx141_0 := (cell_far (p := ⟨gb139, 1, none⟩) (by first | (rw [add_block]; exact hn141_1) | (show (Addr.add _ _).block ≠ _; rw [add_block]; exact hn141_1) | exact hn141_1) (.int .i64 (rd x8_4 0))).trans hx141_0
                         replace hx141_0 := (cell_far (p := ⟨gb139, 2, none⟩) (by first | (rw [add_block]; exact hn141_2) | (show (Addr.add _ _).block ≠ _; rw [add_block]; exact hn141_2) | exact hn141_2) (.int .i64 0)).trans hx141_0
                         replace hx141_0 := (cell_far (p := ⟨gb139, 3, none⟩) (by first | (rw [add_block]; exact hn141_3) | (show (Addr.add _ _).block ≠ _; rw [add_block]; exact hn141_3) | exact hn141_3) (.int .i64 0)).trans hx141_0
                         replace hx141_0 := (cell_far (p := ⟨gb139, 4, none⟩) (by first | (rw [add_block]; exact hn141_4) | (show (Addr.add _ _).block ≠ _; rw [add_block]; exact hn141_4) | exact hn141_4) (.int .i64 0)).trans hx141_0
                         replace hx141_0 := (cell_far (p := ⟨gb139, 5, none⟩) (by first | (rw [add_block]; exact hn141_5) | (show (Addr.add _ _).block ≠ _; rw [add_block]; exact hn141_5) | exact hn141_5) (.int .i64 0)).trans hx141_0
                         replace hx141_0 := (cell_far (p := ⟨gb139, 6, none⟩) (by first | (rw [add_block]; exact hn141_6) | (show (Addr.add _ _).block ≠ _; rw [add_block]; exact hn141_6) | exact hn141_6) (.int .i64 0)).trans hx141_0
                         replace hx141_0 := (cell_far (p := ⟨gb139, 7, none⟩) (by first | (rw [add_block]; exact hn141_7) | (show (Addr.add _ _).block ≠ _; rw [add_block]; exact hn141_7) | exact hn141_7) (.string (⟨#[]⟩ : ByteArray))).trans hx141_0
                         replace hx141_0 := (cell_far (p := ⟨gb139, 6, none⟩) (by first | (rw [add_block]; exact hn141_8) | (show (Addr.add _ _).block ≠ _; rw [add_block]; exact hn141_8) | exact hn141_8) (.int .i64 (rd x8_4 1))).trans hx141_0
                         clear hn141_0
                         clear hn141_1
                         clear hn141_2
                         clear hn141_3
                         clear hn141_4
                         clear hn141_5
                         clear hn141_6
                         clear hn141_7
                         clear hn141_8
                         replace p141 := eq_true p141
                         replace q141 := eq_true q141
                         (try (have q141d := q141; simp only [List.length_drop] at q141d))
                         (try (have q141e := of_eq_true q141; rw [List.length_take] at q141e; replace q141e := Int.lt_of_lt_of_le q141e (Int.ofNat_le.mpr (Nat.min_le_left _ _)); rw [Int.ofNat_toNat] at q141e; have q141g := eq_false (Int.not_le.mpr q141e); replace q141e := eq_true q141e))
                         have p142 : 0 ≤ (2 : Int) := (by omega)
                         have q142 : 2 < (x8_4.length : Int) := of_decide_eq_true (by first | (with_reducible assumption) | assumption)
                         obtain ⟨ad142, e142, hx142_0⟩ := Kd.at_int (Kd.R_reads' HO_8.out).2.2 2 p142 q142
                         obtain rfl : ad138 = ad142 := (by injection e142)
                         (try simp only [show (2 : Int).toNat = 2 from rfl, Nat.reduceMul, Nat.reduceEqDiff, Go.Addr.add, ↓reduceIte] at hx142_0)
                         have qi142 : (2 < x8_4.length) = True := eq_true (by omega)
                         (try rw [show ((2 : Int)).toNat = 2 from rfl] at hx142_0)
                         have hn142_0 : ad138.block ≠ gb139 := Kd.own_blk (Kd.R_ne HO_8.out BK139.out (by decide))
                         have hn142_1 : ad138.block ≠ gb139 := Kd.own_blk (Kd.R_ne HO_8.out BK139.out (by decide))
                         have hn142_2 : ad138.block ≠ gb139 := Kd.own_blk (Kd.R_ne HO_8.out BK139.out (by decide))
                         have hn142_3 : ad138.block ≠ gb139 := Kd.own_blk (Kd.R_ne HO_8.out BK139.out (by decide))
                         have hn142_4 : ad138.block ≠ gb139 := Kd.own_blk (Kd.R_ne HO_8.out BK139.out (by decide))
                         have hn142_5 : ad138.block ≠ gb139 := Kd.own_blk (Kd.R_ne HO_8.out BK139.out (by decide))
                         have hn142_6 : ad138.block ≠ gb139 := Kd.own_blk (Kd.R_ne HO_8.out BK139.out (by decide))
                         have hn142_7 : ad138.block ≠ gb139 := Kd.own_blk (Kd.R_ne HO_8.out BK139.out (by decide))
                         have hn142_8 : ad138.block ≠ gb139 := Kd.own_blk (Kd.R_ne HO_8.out BK139.out (by decide))
                         replace hx142_0 := (cell_far (p := ⟨gb139, 0, none⟩) (by first | (rw [add_block]; exact hn142_0) | (show (Addr.add _ _).block ≠ _; rw [add_block]; exact hn142_0) | exact hn142_0) (.int .i64 (ji30))).trans hx142_0
                         replace hx142_0 := (cell_far (p := ⟨gb139, 1, none⟩) (by first | (rw [add_block]; exact hn142_1) | (show (Addr.add _ _).block ≠ _; rw [add_block]; exact hn142_1) | exact hn142_1) (.int .i64 (rd x8_4 0))).trans hx142_0
                         replace hx142_0 := (cell_far (p := ⟨gb139, 2, none⟩) (by first | (rw [add_block]; exact hn142_2) | (show (Addr.add _ _).block ≠ _; rw [add_block]; exact hn142_2) | exact hn142_2) (.int .i64 0)).trans hx142_0
                         replace hx142_0 := (cell_far (p := ⟨gb139, 3, none⟩) (by first | (rw [add_block]; exact hn142_3) | (show (Addr.add _ _).block ≠ _; rw [add_block]; exact hn142_3) | exact hn142_3) (.int .i64 0)).trans hx142_0
                         replace hx142_0 := (cell_far (p := ⟨gb139, 4, none⟩) (by first | (rw [add_block]; exact hn142_4) | (show (Addr.add _ _).block ≠ _; rw [add_block]; exact hn142_4) | exact hn142_4) (.int .i64 0)).trans hx142_0
                         replace hx142_0 := (cell_far (p := ⟨gb139, 5, none⟩) (by first | (rw [add_block]; exact hn142_5) | (show (Addr.add _ _).block ≠ _; rw [add_block]; exact hn142_5) | exact hn142_5) (.int .i64 0)).trans hx142_0
                         replace hx142_0 := (cell_far (p := ⟨gb139, 6, none⟩) (by first | (rw [add_block]; exact hn142_6) | (show (Addr.add _ _).block ≠ _; rw [add_block]; exact hn142_6) | exact hn142_6) (.int .i64 0)).trans hx142_0
                         replace hx142_0 := (cell_far (p := ⟨gb139, 7, none⟩) (by first | (rw [add_block]; exact hn142_7) | (show (Addr.add _ _).block ≠ _; rw [add_block]; exact hn142_7) | exact hn142_7) (.string (⟨#[]⟩ : ByteArray))).trans hx142_0
                         replace hx142_0 := (cell_far (p := ⟨gb139, 6, none⟩) (by first | (rw [add_block]; exact hn142_8) | (show (Addr.add _ _).block ≠ _; rw [add_block]; exact hn142_8) | exact hn142_8) (.int .i64 (rd x8_4 1))).trans hx142_0
                         clear hn142_0
                         clear hn142_1
                         clear hn142_2
                         clear hn142_3
                         clear hn142_4
                         clear hn142_5
                         clear hn142_6
                         clear hn142_7
                         clear hn142_8
                         replace p142 := eq_true p142
                         replace q142 := eq_true q142
                         (try (have q142d := q142; simp only [List.length_drop] at q142d))
                         (try (have q142e := of_eq_true q142; rw [List.length_take] at q142e; replace q142e := Int.lt_of_lt_of_le q142e (Int.ofNat_le.mpr (Nat.min_le_left _ _)); rw [Int.ofNat_toNat] at q142e; have q142g := eq_false (Int.not_le.mpr q142e); replace q142e := eq_true q142e))
                         obtain ⟨i073, hi073, _, hsz73, _⟩ := info_parts info5
                         obtain ⟨A73, hcut73, hA73, hC73⟩ := print_mid_of (P := Try.prog) (Value.int .u8) 0 27 5 .i64 .i64 Try.underlying27 hi073 hsz73 (some ad122) c0 yy17 x9_4 (wrap64 (x9_4 + (rd x8_4 2))) (of_decide_eq_true (by first | (with_reducible assumption) | assumption)) (by first | omega | exact of_decide_eq_true (by first | (with_reducible assumption) | assumption)) (of_decide_eq_true (by first | (with_reducible assumption) | assumption)) HC120.out
                         have HR143 := zM (Kd.C_of_reads (h1 := fun _ => rfl) (hA73 _ (Kd.reads_of_C HR120.out)))
                         have HC143 := zM hC73
                         clear hA73 hC73 hi073 hsz73
                         have hcv74 := Kd.C_string (P := Try.prog) (A := A73) (c := (c0 - x9_4.toNat)) Try.underlying27 Try.underlying5 Try.underlying9 (Kd.C_below HR143.out HB.out)
                         obtain ⟨yy73, hyy73⟩ : ∃ y_ : List Int, y_ = ((yy17.take ((wrap64 (x9_4 + (rd x8_4 2))) : Int).toNat).drop (x9_4 : Int).toNat) := ⟨_, rfl⟩
                         (try rw [← hyy73] at hcut73)
                         (try rw [← hyy73] at hcv74)
                         (try rw [← hyy73] at HC120)
                         (try rw [← hyy73] at H')
                         (try rw [← hyy73] at A24)
                         (try rw [← hyy73] at HC25)
                         (try rw [← hyy73] at H')
                         (try rw [← hyy73] at H')
                         (try rw [← hyy73] at A39)
                         (try rw [← hyy73] at H')
                         (try rw [← hyy73] at HC51)
                         (try rw [← hyy73] at H')
                         (try rw [← hyy73] at HR143)
                         (try rw [← hyy73] at HC143)
                         have Nyy73 := zM hyy73
                         clear hyy73
                         have p144 : 0 ≤ (2 : Int) := (by omega)
                         have q144 : 2 < (x8_4.length : Int) := of_decide_eq_true (by first | (with_reducible assumption) | assumption)
                         obtain ⟨ad144, e144, hx144_0⟩ := Kd.at_int (Kd.R_reads' HO_8.out).2.2 2 p144 q144
                         obtain rfl : ad138 = ad144 := (by injection e144)
                         (try simp only [show (2 : Int).toNat = 2 from rfl, Nat.reduceMul, Nat.reduceEqDiff, Go.Addr.add, ↓reduceIte] at hx144_0)
                         have qi144 : (2 < x8_4.length) = True := eq_true (by omega)
                         (try rw [show ((2 : Int)).toNat = 2 from rfl] at hx144_0)
                         have hn144_0 : ad138.block ≠ gb139 := Kd.own_blk (Kd.R_ne HO_8.out BK139.out (by decide))
                         have hn144_1 : ad138.block ≠ gb139 := Kd.own_blk (Kd.R_ne HO_8.out BK139.out (by decide))
                         have hn144_2 : ad138.block ≠ gb139 := Kd.own_blk (Kd.R_ne HO_8.out BK139.out (by decide))
                         have hn144_3 : ad138.block ≠ gb139 := Kd.own_blk (Kd.R_ne HO_8.out BK139.out (by decide))
                         have hn144_4 : ad138.block ≠ gb139 := Kd.own_blk (Kd.R_ne HO_8.out BK139.out (by decide))
                         have hn144_5 : ad138.block ≠ gb139 := Kd.own_blk (Kd.R_ne HO_8.out BK139.out (by decide))
                         have hn144_6 : ad138.block ≠ gb139 := Kd.own_blk (Kd.R_ne HO_8.out BK139.out (by decide))
                         have hn144_7 : ad138.block ≠ gb139 := Kd.own_blk (Kd.R_ne HO_8.out BK139.out (by decide))
                         have hn144_8 : ad138.block ≠ gb139 := Kd.own_blk (Kd.R_ne HO_8.out BK139.out (by decide))
                         have hn144_9 : ad138.block ≠ gb139 := Kd.own_blk (Kd.R_ne HO_8.out BK139.out (by decide))
                         replace hx144_0 := (cell_far (p := ⟨gb139, 0, none⟩) (by first | (rw [add_block]; exact hn144_0) | (show (Addr.add _ _).block ≠ _; rw [add_block]; exact hn144_0) | exact hn144_0) (.int .i64 (ji30))).trans hx144_0
                         replace hx144_0 := (cell_far (p := ⟨gb139, 1, none⟩) (by first | (rw [add_block]; exact hn144_1) | (show (Addr.add _ _).block ≠ _; rw [add_block]; exact hn144_1) | exact hn144_1) (.int .i64 (rd x8_4 0))).trans hx144_0
                         replace hx144_0 := (cell_far (p := ⟨gb139, 2, none⟩) (by first | (rw [add_block]; exact hn144_2) | (show (Addr.add _ _).block ≠ _; rw [add_block]; exact hn144_2) | exact hn144_2) (.int .i64 0)).trans hx144_0
                         replace hx144_0 := (cell_far (p := ⟨gb139, 3, none⟩) (by first | (rw [add_block]; exact hn144_3) | (show (Addr.add _ _).block ≠ _; rw [add_block]; exact hn144_3) | exact hn144_3) (.int .i64 0)).trans hx144_0
                         replace hx144_0 := (cell_far (p := ⟨gb139, 4, none⟩) (by first | (rw [add_block]; exact hn144_4) | (show (Addr.add _ _).block ≠ _; rw [add_block]; exact hn144_4) | exact hn144_4) (.int .i64 0)).trans hx144_0
                         replace hx144_0 := (cell_far (p := ⟨gb139, 5, none⟩) (by first | (rw [add_block]; exact hn144_5) | (show (Addr.add _ _).block ≠ _; rw [add_block]; exact hn144_5) | exact hn144_5) (.int .i64 0)).trans hx144_0
                         replace hx144_0 := (cell_far (p := ⟨gb139, 6, none⟩) (by first | (rw [add_block]; exact hn144_6) | (show (Addr.add _ _).block ≠ _; rw [add_block]; exact hn144_6) | exact hn144_6) (.int .i64 0)).trans hx144_0
                         replace hx144_0 := (cell_far (p := ⟨gb139, 7, none⟩) (by first | (rw [add_block]; exact hn144_7) | (show (Addr.add _ _).block ≠ _; rw [add_block]; exact hn144_7) | exact hn144_7) (.string (⟨#[]⟩ : ByteArray))).trans hx144_0
                         replace hx144_0 := (cell_far (p := ⟨gb139, 6, none⟩) (by first | (rw [add_block]; exact hn144_8) | (show (Addr.add _ _).block ≠ _; rw [add_block]; exact hn144_8) | exact hn144_8) (.int .i64 (rd x8_4 1))).trans hx144_0
                         replace hx144_0 := (cell_far (p := ⟨gb139, 7, none⟩) (by first | (rw [add_block]; exact hn144_9) | (show (Addr.add _ _).block ≠ _; rw [add_block]; exact hn144_9) | exact hn144_9) (.string (strOfNums yy73))).trans hx144_0
                         clear hn144_0
                         clear hn144_1
                         clear hn144_2
                         clear hn144_3
                         clear hn144_4
                         clear hn144_5
                         clear hn144_6
                         clear hn144_7
                         clear hn144_8
                         clear hn144_9
                         replace p144 := eq_true p144
                         replace q144 := eq_true q144
                         (try (have q144d := q144; simp only [List.length_drop] at q144d))
                         (try (have q144e := of_eq_true q144; rw [List.length_take] at q144e; replace q144e := Int.lt_of_lt_of_le q144e (Int.ofNat_le.mpr (Nat.min_le_left _ _)); rw [Int.ofNat_toNat] at q144e; have q144g := eq_false (Int.not_le.mpr q144e); replace q144e := eq_true q144e))
                         go_wp2
                         (try (rw [Kd.C_string (P := Try.prog) (A := A73) (c := (c0 - x9_4.toNat)) Try.underlying27 Try.underlying5 Try.underlying9 (Kd.C_below HR143.out ?hb)]; (case hb => repeat (first | (with_reducible first | exact HB.out | apply bE | apply bD | apply bF | refine below_set ?_ GE118.out | refine below_set ?_ GE119.out | refine below_set ?_ GE139.out) | exact HB.out)); go_wp2))
                         go_meet
                         case rel => exact ⟨_, (wrap64 (x9_4 + (rd x8_4 2))), (x119000_4), (x119001_4), (x119002_4), (x119003_4), (x119004_4), (x119005_4), (x119006_4), (x119007_4), (0), (0), (0), (0), (rd x8_4 1), (strOfNums yy73), (by first | rfl | (simp; done) | (simp [*]; done)), H', ⟨by have := HJ1.out; have := HJ15.out; have := HJ24.out; have := HK4.out; first | omega | exact Nat.le_refl _⟩, ⟨by (with_reducible repeat (first | refine bA ?_ _ | refine bB ?_ | refine bC ?_ _)); refine blk_far ?_ NB118_139.out _; (with_reducible repeat (first | refine bA ?_ _ | refine bB ?_ | refine bC ?_ _)); refine blk_far ?_ NB118_139.out _; (with_reducible repeat (first | refine bA ?_ _ | refine bB ?_ | refine bC ?_ _)); refine blk_far ?_ NB118_139.out _; (with_reducible repeat (first | refine bA ?_ _ | refine bB ?_ | refine bC ?_ _)); refine blk_far ?_ NB118_139.out _; (with_reducible repeat (first | refine bA ?_ _ | refine bB ?_ | refine bC ?_ _)); refine blk_far ?_ NB118_139.out _; (with_reducible repeat (first | refine bA ?_ _ | refine bB ?_ | refine bC ?_ _)); refine blk_far ?_ NB118_139.out _; (with_reducible repeat (first | refine bA ?_ _ | refine bB ?_ | refine bC ?_ _)); refine blk_far ?_ NB118_139.out _; (with_reducible repeat (first | refine bA ?_ _ | refine bB ?_ | refine bC ?_ _)); refine blk_far ?_ NB118_139.out _; (with_reducible repeat (first | refine bA ?_ _ | refine bB ?_ | refine bC ?_ _)); refine blk_far ?_ NB118_139.out _; (with_reducible repeat (first | refine bA ?_ _ | refine bB ?_ | refine bC ?_ _)); refine blk_far ?_ NB118_139.out _; (with_reducible repeat (first | refine bA ?_ _ | refine bB ?_ | refine bC ?_ _)); exact BK118.out⟩, ⟨by (with_reducible repeat (first | refine bA ?_ _ | refine bB ?_ | refine bC ?_ _)); refine blk_far ?_ NB119_139.out _; (with_reducible repeat (first | refine bA ?_ _ | refine bB ?_ | refine bC ?_ _)); refine blk_far ?_ NB119_139.out _; (with_reducible repeat (first | refine bA ?_ _ | refine bB ?_ | refine bC ?_ _)); refine blk_far ?_ NB119_139.out _; (with_reducible repeat (first | refine bA ?_ _ | refine bB ?_ | refine bC ?_ _)); refine blk_far ?_ NB119_139.out _; (with_reducible repeat (first | refine bA ?_ _ | refine bB ?_ | refine bC ?_ _)); refine blk_far ?_ NB119_139.out _; (with_reducible repeat (first | refine bA ?_ _ | refine bB ?_ | refine bC ?_ _)); refine blk_far ?_ NB119_139.out _; (with_reducible repeat (first | refine bA ?_ _ | refine bB ?_ | refine bC ?_ _)); refine blk_far ?_ NB119_139.out _; (with_reducible repeat (first | refine bA ?_ _ | refine bB ?_ | refine bC ?_ _)); refine blk_far ?_ NB119_139.out _; (with_reducible repeat (first | refine bA ?_ _ | refine bB ?_ | refine bC ?_ _)); refine blk_far ?_ NB119_139.out _; (with_reducible repeat (first | refine bA ?_ _ | refine bB ?_ | refine bC ?_ _)); refine blk_far ?_ NB119_139.out _; (with_reducible repeat (first | refine bA ?_ _ | refine bB ?_ | refine bC ?_ _)); exact BK119.out⟩, ⟨by (with_reducible repeat (first | refine bA ?_ _ | refine bB ?_ | refine bC ?_ _)); refine bH (cs := #[.int .i64 (ji30), .int .i64 (rd x8_4 0), .int .i64 0, .int .i64 0, .int .i64 0, .int .i64 0, .int .i64 (rd x8_4 1), .string (⟨#[]⟩ : ByteArray)]) ?_ 7 _ rfl; (with_reducible repeat (first | refine bA ?_ _ | refine bB ?_ | refine bC ?_ _)); refine bH (cs := #[.int .i64 (ji30), .int .i64 (rd x8_4 0), .int .i64 0, .int .i64 0, .int .i64 0, .int .i64 0, .int .i64 0, .string (⟨#[]⟩ : ByteArray)]) ?_ 6 _ rfl; (with_reducible repeat (first | refine bA ?_ _ | refine bB ?_ | refine bC ?_ _)); refine bH (cs := #[.int .i64 (ji30), .int .i64 (rd x8_4 0), .int .i64 0, .int .i64 0, .int .i64 0, .int .i64 0, .int .i64 0, .string (⟨#[]⟩ : ByteArray)]) ?_ 7 _ rfl; (with_reducible repeat (first | refine bA ?_ _ | refine bB ?_ | refine bC ?_ _)); refine bH (cs := #[.int .i64 (ji30), .int .i64 (rd x8_4 0), .int .i64 0, .int .i64 0, .int .i64 0, .int .i64 0, .int .i64 0, .string (⟨#[]⟩ : ByteArray)]) ?_ 6 _ rfl; (with_reducible repeat (first | refine bA ?_ _ | refine bB ?_ | refine bC ?_ _)); refine bH (cs := #[.int .i64 (ji30), .int .i64 (rd x8_4 0), .int .i64 0, .int .i64 0, .int .i64 0, .int .i64 0, .int .i64 0, .string (⟨#[]⟩ : ByteArray)]) ?_ 5 _ rfl; (with_reducible repeat (first | refine bA ?_ _ | refine bB ?_ | refine bC ?_ _)); refine bH (cs := #[.int .i64 (ji30), .int .i64 (rd x8_4 0), .int .i64 0, .int .i64 0, .int .i64 0, .int .i64 0, .int .i64 0, .string (⟨#[]⟩ : ByteArray)]) ?_ 4 _ rfl; (with_reducible repeat (first | refine bA ?_ _ | refine bB ?_ | refine bC ?_ _)); refine bH (cs := #[.int .i64 (ji30), .int .i64 (rd x8_4 0), .int .i64 0, .int .i64 0, .int .i64 0, .int .i64 0, .int .i64 0, .string (⟨#[]⟩ : ByteArray)]) ?_ 3 _ rfl; (with_reducible repeat (first | refine bA ?_ _ | refine bB ?_ | refine bC ?_ _)); refine bH (cs := #[.int .i64 (ji30), .int .i64 (rd x8_4 0), .int .i64 0, .int .i64 0, .int .i64 0, .int .i64 0, .int .i64 0, .string (⟨#[]⟩ : ByteArray)]) ?_ 2 _ rfl; (with_reducible repeat (first | refine bA ?_ _ | refine bB ?_ | refine bC ?_ _)); refine bH (cs := #[.int .i64 (ji30), .int .i64 0, .int .i64 0, .int .i64 0, .int .i64 0, .int .i64 0, .int .i64 0, .string (⟨#[]⟩ : ByteArray)]) ?_ 1 _ rfl; (with_reducible repeat (first | refine bA ?_ _ | refine bB ?_ | refine bC ?_ _)); refine bH (cs := #[.int .i64 0, .int .i64 0, .int .i64 0, .int .i64 0, .int .i64 0, .int .i64 0, .int .i64 0, .string (⟨#[]⟩ : ByteArray)]) ?_ 0 _ rfl; (with_reducible repeat (first | refine bA ?_ _ | refine bB ?_ | refine bC ?_ _)); exact BK139.out⟩, ⟨by repeat (first | (with_reducible first | exact HB.out | apply bE | apply bD | apply bF | refine below_set ?_ GE118.out | refine below_set ?_ GE119.out | refine below_set ?_ GE139.out) | exact HB.out)⟩⟩
                        ·rw [if_neg c69] at H
                         exact absurd H (by simp)
                       ·rw [if_neg c68] at H
                        exact absurd H (by simp)
                      ·rw [if_neg c67] at H
                       exact absurd H (by simp)
                    ·rw [if_neg c59] at H
                     exact absurd H (by simp)
                   ·rw [if_neg c58] at H
                    exact absurd H (by simp)
                  ·rw [if_neg c57] at H
                   have c57b0 : ((ji30) == 3) = false := beq_eq_false_iff_ne.mpr c57
                   have c57b1 : ((ji30) != 3) = true := bne_iff_ne.mpr c57
                   (first | rw [c57b0] | (simp only [i64_w, i32_w]; rw [c57b0]) | skip)
                   by_cases c75 : (ji30) = 2
                   ·rw [if_pos c75] at H
                    have c75b0 : ((ji30) == 2) = true := beq_iff_eq.mpr c75
                    have c75b1 : ((ji30) != 2) = false := bne_eq_false_iff_eq.mpr c75
                    clear c75
                    by_cases c76 : 1 < (x8_4.length : Int)
                    ·rw [if_pos c76] at H
                     have c76b0 : decide (1 < (x8_4.length : Int)) = true := decide_eq_true c76
                     have c76b1 : decide (1 < x8_4.length) = true := decide_eq_true (by omega)
                     clear c76
                     by_cases c77 : 2 < (x8_4.length : Int)
                     ·rw [if_pos c77] at H
                      have c77b0 : decide (2 < (x8_4.length : Int)) = true := decide_eq_true c77
                      have c77b1 : decide (2 < x8_4.length) = true := decide_eq_true (by omega)
                      clear c77
                      by_cases c78 : 3 < (x8_4.length : Int)
                      ·rw [if_pos c78] at H
                       have c78b0 : decide (3 < (x8_4.length : Int)) = true := decide_eq_true c78
                       have c78b1 : decide (3 < x8_4.length) = true := decide_eq_true (by omega)
                       clear c78
                       replace H := zO H
                       obtain ⟨t148, A790, H⟩ := H
                       replace H : (if 4 < (x8_4.length : Int) then ((spec_l4End.f (rd x8_4 4)).bind fun t150 => (spec_Unpack.j4 k4 yy17 x9_4 0 0 0 0 0 0 0 (⟨#[]⟩ : ByteArray) (ji30) (rd x8_4 0) (rd x8_4 1) (rd x8_4 2) t148 t150 0 (⟨#[]⟩ : ByteArray))) else (none)) = some (r1, r2, r3, r4, r5, r6, r7, r8, r9) := H
                       have A79 := zM A790
                       clear A790
                       by_cases c80 : 4 < (x8_4.length : Int)
                       ·rw [if_pos c80] at H
                        have c80b0 : decide (4 < (x8_4.length : Int)) = true := decide_eq_true c80
                        have c80b1 : decide (4 < x8_4.length) = true := decide_eq_true (by omega)
                        clear c80
                        replace H := zO H
                        obtain ⟨t150, A810, H⟩ := H
                        replace H : (spec_Unpack.j4 k4 yy17 x9_4 0 0 0 0 0 0 0 (⟨#[]⟩ : ByteArray) (ji30) (rd x8_4 0) (rd x8_4 1) (rd x8_4 2) t148 t150 0 (⟨#[]⟩ : ByteArray)) = some (r1, r2, r3, r4, r5, r6, r7, r8, r9) := H
                        have A81 := zM A810
                        clear A810
                        have H' := zM H
                        clear H
                        have p145 : 0 ≤ (1 : Int) := (by omega)
                        have q145 : 1 < (x8_4.length : Int) := of_decide_eq_true (by first | (with_reducible assumption) | assumption)
                        obtain ⟨ad145, e145, hx145_0⟩ := Kd.at_int (Kd.R_reads' HO_8.out).2.2 1 p145 q145
                        obtain rfl : ad138 = ad145 := (by injection e145)
                        (try simp only [show (1 : Int).toNat = 1 from rfl, Nat.reduceMul, Nat.reduceEqDiff, Go.Addr.add, ↓reduceIte] at hx145_0)
                        have qi145 : (1 < x8_4.length) = True := eq_true (by omega)
                        (try rw [show ((1 : Int)).toNat = 1 from rfl] at hx145_0)
                        have hn145_0 : ad138.block ≠ gb139 := Kd.own_blk (Kd.R_ne HO_8.out BK139.out (by decide))
                        have hn145_1 : ad138.block ≠ gb139 := Kd.own_blk (Kd.R_ne HO_8.out BK139.out (by decide))
                        have hn145_2 : ad138.block ≠ gb139 := Kd.own_blk (Kd.R_ne HO_8.out BK139.out (by decide))
                        have hn145_3 : ad138.block ≠ gb139 := Kd.own_blk (Kd.R_ne HO_8.out BK139.out (by decide))
                        have hn145_4 : ad138.block ≠ gb139 := Kd.own_blk (Kd.R_ne HO_8.out BK139.out (by decide))
                        have hn145_5 : ad138.block ≠ gb139 := Kd.own_blk (Kd.R_ne HO_8.out BK139.out (by decide))
                        have hn145_6 : ad138.block ≠ gb139 := Kd.own_blk (Kd.R_ne HO_8.out BK139.out (by decide))
                        have hn145_7 : ad138.block ≠ gb139 := Kd.own_blk (Kd.R_ne HO_8.out BK139.out (by decide))
                        replace hx145_0 := (cell_far (p := ⟨gb139, 0, none⟩) (by first | (rw [add_block]; exact hn145_0) | (show (Addr.add _ _).block ≠ _; rw [add_block]; exact hn145_0) | exact hn145_0) (.int .i64 (ji30))).trans hx145_0
                        replace hx145_0 := (cell_far (p := ⟨gb139, 1, none⟩) (by first | (rw [add_block]; exact hn145_1) | (show (Addr.add _ _).block ≠ _; rw [add_block]; exact hn145_1) | exact hn145_1) (.int .i64 (rd x8_4 0))).trans hx145_0
                        replace hx145_0 := (cell_far (p := ⟨gb139, 2, none⟩) (by first | (rw [add_block]; exact hn145_2) | (show (Addr.add _ _).block ≠ _; rw [add_block]; exact hn145_2) | exact hn145_2) (.int .i64 0)).trans hx145_0
                        replace hx145_0 := (cell_far (p := ⟨gb139, 3, none⟩) (by first | (rw [add_block]; exact hn145_3) | (show (Addr.add _ _).block ≠ _; rw [add_block]; exact hn145_3) | exact hn145_3) (.int .i64 0)).trans hx145_0
                        replace hx145_0 := (cell_far (p := ⟨gb139, 4, none⟩) (by first | (rw [add_block]; exact hn145_4) | (show (Addr.add _ _).block ≠ _; rw [add_block]; exact hn145_4) | exact hn145_4) (.int .i64 0)).trans hx145_0
                        replace hx145_0 := (cell_far (p := ⟨gb139, 5, none⟩) (by first | (rw [add_block]; exact hn145_5) | (show (Addr.add _ _).block ≠ _; rw [add_block]; exact hn145_5) | exact hn145_5) (.int .i64 0)).trans hx145_0
                        replace hx145_0 := (cell_far (p := ⟨gb139, 6, none⟩) (by first | (rw [add_block]; exact hn145_6) | (show (Addr.add _ _).block ≠ _; rw [add_block]; exact hn145_6) | exact hn145_6) (.int .i64 0)).trans hx145_0
                        replace hx145_0 := (cell_far (p := ⟨gb139, 7, none⟩) (by first | (rw [add_block]; exact hn145_7) | (show (Addr.add _ _).block ≠ _; rw [add_block]; exact hn145_7) | exact hn145_7) (.string (⟨#[]⟩ : ByteArray))).trans hx145_0
                        clear hn145_0
                        clear hn145_1
                        clear hn145_2
                        clear hn145_3
                        clear hn145_4
                        clear hn145_5
                        clear hn145_6
                        clear hn145_7
                        replace p145 := eq_true p145
                        replace q145 := eq_true q145
                        (try (have q145d := q145; simp only [List.length_drop] at q145d))
                        (try (have q145e := of_eq_true q145; rw [List.length_take] at q145e; replace q145e := Int.lt_of_lt_of_le q145e (Int.ofNat_le.mpr (Nat.min_le_left _ _)); rw [Int.ofNat_toNat] at q145e; have q145g := eq_false (Int.not_le.mpr q145e); replace q145e := eq_true q145e))
                        have hnb82 := NB139_118.out
                        have hnc82 := NB118_139.out
                        have hnb83 := NB139_119.out
                        have hnc83 := NB119_139.out
                        have hcz84_0 : w53.cell? ⟨gb139, 0, none⟩ = some (.int .i64 0) := (blk_cell BK139.out 0).trans rfl
                        have hcz84_1 : w53.cell? ⟨gb139, 1, none⟩ = some (.int .i64 0) := (blk_cell BK139.out 1).trans rfl
                        have hcz84_2 : w53.cell? ⟨gb139, 2, none⟩ = some (.int .i64 0) := (blk_cell BK139.out 2).trans rfl
                        have hcz84_3 : w53.cell? ⟨gb139, 3, none⟩ = some (.int .i64 0) := (blk_cell BK139.out 3).trans rfl
                        have hcz84_4 : w53.cell? ⟨gb139, 4, none⟩ = some (.int .i64 0) := (blk_cell BK139.out 4).trans rfl
                        have hcz84_5 : w53.cell? ⟨gb139, 5, none⟩ = some (.int .i64 0) := (blk_cell BK139.out 5).trans rfl
                        have hcz84_6 : w53.cell? ⟨gb139, 6, none⟩ = some (.int .i64 0) := (blk_cell BK139.out 6).trans rfl
                        have hcz84_7 : w53.cell? ⟨gb139, 7, none⟩ = some (.string (⟨#[]⟩ : ByteArray)) := (blk_cell BK139.out 7).trans rfl
                        have hfz84_0 := blk_frozen BK139.out 0
                        have hfz84_1 := blk_frozen BK139.out 1
                        have hfz84_2 := blk_frozen BK139.out 2
                        have hfz84_3 := blk_frozen BK139.out 3
                        have hfz84_4 := blk_frozen BK139.out 4
                        have hfz84_5 := blk_frozen BK139.out 5
                        have hfz84_6 := blk_frozen BK139.out 6
                        have hfz84_7 := blk_frozen BK139.out 7
                        have p146 : 0 ≤ (2 : Int) := (by omega)
                        have q146 : 2 < (x8_4.length : Int) := of_decide_eq_true (by first | (with_reducible assumption) | assumption)
                        obtain ⟨ad146, e146, hx146_0⟩ := Kd.at_int (Kd.R_reads' HO_8.out).2.2 2 p146 q146
                        obtain rfl : ad138 = ad146 := (by injection e146)
                        (try simp only [show (2 : Int).toNat = 2 from rfl, Nat.reduceMul, Nat.reduceEqDiff, Go.Addr.add, ↓reduceIte] at hx146_0)
                        have qi146 : (2 < x8_4.length) = True := eq_true (by omega)
                        (try rw [show ((2 : Int)).toNat = 2 from rfl] at hx146_0)
                        have hn146_0 : ad138.block ≠ gb139 := Kd.own_blk (Kd.R_ne HO_8.out BK139.out (by decide))
                        have hn146_1 : ad138.block ≠ gb139 := Kd.own_blk (Kd.R_ne HO_8.out BK139.out (by decide))
                        have hn146_2 : ad138.block ≠ gb139 := Kd.own_blk (Kd.R_ne HO_8.out BK139.out (by decide))
                        have hn146_3 : ad138.block ≠ gb139 := Kd.own_blk (Kd.R_ne HO_8.out BK139.out (by decide))
                        have hn146_4 : ad138.block ≠ gb139 := Kd.own_blk (Kd.R_ne HO_8.out BK139.out (by decide))
                        have hn146_5 : ad138.block ≠ gb139 := Kd.own_blk (Kd.R_ne HO_8.out BK139.out (by decide))
                        have hn146_6 : ad138.block ≠ gb139 := Kd.own_blk (Kd.R_ne HO_8.out BK139.out (by decide))
                        have hn146_7 : ad138.block ≠ gb139 := Kd.own_blk (Kd.R_ne HO_8.out BK139.out (by decide))
                        have hn146_8 : ad138.block ≠ gb139 := Kd.own_blk (Kd.R_ne HO_8.out BK139.out (by decide))
                        replace hx146_0 := (cell_far (p := ⟨gb139, 0, none⟩) (by first | (rw [add_block]; exact hn146_0) | (show (Addr.add _ _).block ≠ _; rw [add_block]; exact hn146_0) | exact hn146_0) (.int .i64 (ji30))).trans hx146_0
                        replace hx146_0 := (cell_far (p := ⟨gb139, 1, none⟩) (by first | (rw [add_block]; exact hn146_1) | (show (Addr.add _ _).block ≠ _; rw [add_block]; exact hn146_1) | exact hn146_1) (.int .i64 (rd x8_4 0))).trans hx146_0
                        replace hx146_0 := (cell_far (p := ⟨gb139, 2, none⟩) (by first | (rw [add_block]; exact hn146_2) | (show (Addr.add _ _).block ≠ _; rw [add_block]; exact hn146_2) | exact hn146_2) (.int .i64 0)).trans hx146_0
                        replace hx146_0 := (cell_far (p := ⟨gb139, 3, none⟩) (by first | (rw [add_block]; exact hn146_3) | (show (Addr.add _ _).block ≠ _; rw [add_block]; exact hn146_3) | exact hn146_3) (.int .i64 0)).trans hx146_0
                        replace hx146_0 := (cell_far (p := ⟨gb139, 4, none⟩) (by first | (rw [add_block]; exact hn146_4) | (show (Addr.add _ _).block ≠ _; rw [add_block]; exact hn146_4) | exact hn146_4) (.int .i64 0)).trans hx146_0
                        replace hx146_0 := (cell_far (p := ⟨gb139, 5, none⟩) (by first | (rw [add_block]; exact hn146_5) | (show (Addr.add _ _).block ≠ _; rw [add_block]; exact hn146_5) | exact hn146_5) (.int .i64 0)).trans hx146_0
                        replace hx146_0 := (cell_far (p := ⟨gb139, 6, none⟩) (by first | (rw [add_block]; exact hn146_6) | (show (Addr.add _ _).block ≠ _; rw [add_block]; exact hn146_6) | exact hn146_6) (.int .i64 0)).trans hx146_0
                        replace hx146_0 := (cell_far (p := ⟨gb139, 7, none⟩) (by first | (rw [add_block]; exact hn146_7) | (show (Addr.add _ _).block ≠ _; rw [add_block]; exact hn146_7) | exact hn146_7) (.string (⟨#[]⟩ : ByteArray))).trans hx146_0
                        replace hx146_0 := (cell_far (p := ⟨gb139, 2, none⟩) (by first | (rw [add_block]; exact hn146_8) | (show (Addr.add _ _).block ≠ _; rw [add_block]; exact hn146_8) | exact hn146_8) (.int .i64 (rd x8_4 1))).trans hx146_0
                        clear hn146_0
                        clear hn146_1
                        clear hn146_2
                        clear hn146_3
                        clear hn146_4
                        clear hn146_5
                        clear hn146_6
                        clear hn146_7
                        clear hn146_8
                        replace p146 := eq_true p146
                        replace q146 := eq_true q146
                        (try (have q146d := q146; simp only [List.length_drop] at q146d))
                        (try (have q146e := of_eq_true q146; rw [List.length_take] at q146e; replace q146e := Int.lt_of_lt_of_le q146e (Int.ofNat_le.mpr (Nat.min_le_left _ _)); rw [Int.ofNat_toNat] at q146e; have q146g := eq_false (Int.not_le.mpr q146e); replace q146e := eq_true q146e))
                        try go_wp2
                        have n0_ : Aside0 (Kd.R (Kd.int .i64) 3 ((((((((((w53.setCell ⟨gb139, 0, none⟩ (.int .i64 (ji30))).setCell ⟨gb139, 1, none⟩ (.int .i64 (rd x8_4 0))).setCell ⟨gb139, 2, none⟩ (.int .i64 0)).setCell ⟨gb139, 3, none⟩ (.int .i64 0)).setCell ⟨gb139, 4, none⟩ (.int .i64 0)).setCell ⟨gb139, 5, none⟩ (.int .i64 0)).setCell ⟨gb139, 6, none⟩ (.int .i64 0)).setCell ⟨gb139, 7, none⟩ (.string (⟨#[]⟩ : ByteArray))).setCell ⟨gb139, 2, none⟩ (.int .i64 (rd x8_4 1))).setCell ⟨gb139, 3, none⟩ (.int .i64 (rd x8_4 2))) w.heap.size (fun _ => True) (.slice (some ad138) x8_4.length co52) x8_4) := ⟨by (with_reducible repeat (first | apply Kd.R_alloc | apply Kd.R_drewN | apply Kd.R_drew)); exact Kd.R_mono (Kd.R_far (p := ⟨gb139, 3, none⟩) (Kd.R_far (p := ⟨gb139, 2, none⟩) (Kd.R_far (p := ⟨gb139, 7, none⟩) (Kd.R_far (p := ⟨gb139, 6, none⟩) (Kd.R_far (p := ⟨gb139, 5, none⟩) (Kd.R_far (p := ⟨gb139, 4, none⟩) (Kd.R_far (p := ⟨gb139, 3, none⟩) (Kd.R_far (p := ⟨gb139, 2, none⟩) (Kd.R_far (p := ⟨gb139, 1, none⟩) (Kd.R_far (p := ⟨gb139, 0, none⟩) (Kd.R_types HO_8.out BK139.out (by decide)) (fun _ hk => hk.2) (.int .i64 (ji30))) (fun _ hk => hk.2) (.int .i64 (rd x8_4 0))) (fun _ hk => hk.2) (.int .i64 0)) (fun _ hk => hk.2) (.int .i64 0)) (fun _ hk => hk.2) (.int .i64 0)) (fun _ hk => hk.2) (.int .i64 0)) (fun _ hk => hk.2) (.int .i64 0)) (fun _ hk => hk.2) (.string (⟨#[]⟩ : ByteArray))) (fun _ hk => hk.2) (.int .i64 (rd x8_4 1))) (fun _ hk => hk.2) (.int .i64 (rd x8_4 2))) (fun _ hk => trivial)⟩
                        have n1_ : Aside0 (((((((((((w53.setCell ⟨gb139, 0, none⟩ (.int .i64 (ji30))).setCell ⟨gb139, 1, none⟩ (.int .i64 (rd x8_4 0))).setCell ⟨gb139, 2, none⟩ (.int .i64 0)).setCell ⟨gb139, 3, none⟩ (.int .i64 0)).setCell ⟨gb139, 4, none⟩ (.int .i64 0)).setCell ⟨gb139, 5, none⟩ (.int .i64 0)).setCell ⟨gb139, 6, none⟩ (.int .i64 0)).setCell ⟨gb139, 7, none⟩ (.string (⟨#[]⟩ : ByteArray))).setCell ⟨gb139, 2, none⟩ (.int .i64 (rd x8_4 1))).setCell ⟨gb139, 3, none⟩ (.int .i64 (rd x8_4 2))).heap[gb118]? = some (.cells #[.int .i64 x119000_4, .int .i64 x119001_4, .int .i64 x119002_4, .int .i64 x119003_4, .int .i64 x119004_4, .int .i64 x119005_4, .int .i64 x119006_4, .string x119007_4] 32 (0, 0))) := ⟨by (with_reducible repeat (first | refine bA ?_ _ | refine bB ?_ | refine bC ?_ _)); refine blk_far ?_ NB118_139.out _; (with_reducible repeat (first | refine bA ?_ _ | refine bB ?_ | refine bC ?_ _)); refine blk_far ?_ NB118_139.out _; (with_reducible repeat (first | refine bA ?_ _ | refine bB ?_ | refine bC ?_ _)); refine blk_far ?_ NB118_139.out _; (with_reducible repeat (first | refine bA ?_ _ | refine bB ?_ | refine bC ?_ _)); refine blk_far ?_ NB118_139.out _; (with_reducible repeat (first | refine bA ?_ _ | refine bB ?_ | refine bC ?_ _)); refine blk_far ?_ NB118_139.out _; (with_reducible repeat (first | refine bA ?_ _ | refine bB ?_ | refine bC ?_ _)); refine blk_far ?_ NB118_139.out _; (with_reducible repeat (first | refine bA ?_ _ | refine bB ?_ | refine bC ?_ _)); refine blk_far ?_ NB118_139.out _; (with_reducible repeat (first | refine bA ?_ _ | refine bB ?_ | refine bC ?_ _)); refine blk_far ?_ NB118_139.out _; (with_reducible repeat (first | refine bA ?_ _ | refine bB ?_ | refine bC ?_ _)); refine blk_far ?_ NB118_139.out _; (with_reducible repeat (first | refine bA ?_ _ | refine bB ?_ | refine bC ?_ _)); refine blk_far ?_ NB118_139.out _; (with_reducible repeat (first | refine bA ?_ _ | refine bB ?_ | refine bC ?_ _)); exact BK118.out⟩
                        have n2_ : Aside0 (((((((((((w53.setCell ⟨gb139, 0, none⟩ (.int .i64 (ji30))).setCell ⟨gb139, 1, none⟩ (.int .i64 (rd x8_4 0))).setCell ⟨gb139, 2, none⟩ (.int .i64 0)).setCell ⟨gb139, 3, none⟩ (.int .i64 0)).setCell ⟨gb139, 4, none⟩ (.int .i64 0)).setCell ⟨gb139, 5, none⟩ (.int .i64 0)).setCell ⟨gb139, 6, none⟩ (.int .i64 0)).setCell ⟨gb139, 7, none⟩ (.string (⟨#[]⟩ : ByteArray))).setCell ⟨gb139, 2, none⟩ (.int .i64 (rd x8_4 1))).setCell ⟨gb139, 3, none⟩ (.int .i64 (rd x8_4 2))).heap[gb119]? = some (.cells #[.int .i64 0, .int .i64 0, .int .i64 0, .int .i64 0, .int .i64 0, .int .i64 0, .int .i64 0, .string (⟨#[]⟩ : ByteArray)] 32 (0, 0))) := ⟨by (with_reducible repeat (first | refine bA ?_ _ | refine bB ?_ | refine bC ?_ _)); refine blk_far ?_ NB119_139.out _; (with_reducible repeat (first | refine bA ?_ _ | refine bB ?_ | refine bC ?_ _)); refine blk_far ?_ NB119_139.out _; (with_reducible repeat (first | refine bA ?_ _ | refine bB ?_ | refine bC ?_ _)); refine blk_far ?_ NB119_139.out _; (with_reducible repeat (first | refine bA ?_ _ | refine bB ?_ | refine bC ?_ _)); refine blk_far ?_ NB119_139.out _; (with_reducible repeat (first | refine bA ?_ _ | refine bB ?_ | refine bC ?_ _)); refine blk_far ?_ NB119_139.out _; (with_reducible repeat (first | refine bA ?_ _ | refine bB ?_ | refine bC ?_ _)); refine blk_far ?_ NB119_139.out _; (with_reducible repeat (first | refine bA ?_ _ | refine bB ?_ | refine bC ?_ _)); refine blk_far ?_ NB119_139.out _; (with_reducible repeat (first | refine bA ?_ _ | refine bB ?_ | refine bC ?_ _)); refine blk_far ?_ NB119_139.out _; (with_reducible repeat (first | refine bA ?_ _ | refine bB ?_ | refine bC ?_ _)); refine blk_far ?_ NB119_139.out _; (with_reducible repeat (first | refine bA ?_ _ | refine bB ?_ | refine bC ?_ _)); refine blk_far ?_ NB119_139.out _; (with_reducible repeat (first | refine bA ?_ _ | refine bB ?_ | refine bC ?_ _)); exact BK119.out⟩
                        have n3_ : Aside0 (((((((((((w53.setCell ⟨gb139, 0, none⟩ (.int .i64 (ji30))).setCell ⟨gb139, 1, none⟩ (.int .i64 (rd x8_4 0))).setCell ⟨gb139, 2, none⟩ (.int .i64 0)).setCell ⟨gb139, 3, none⟩ (.int .i64 0)).setCell ⟨gb139, 4, none⟩ (.int .i64 0)).setCell ⟨gb139, 5, none⟩ (.int .i64 0)).setCell ⟨gb139, 6, none⟩ (.int .i64 0)).setCell ⟨gb139, 7, none⟩ (.string (⟨#[]⟩ : ByteArray))).setCell ⟨gb139, 2, none⟩ (.int .i64 (rd x8_4 1))).setCell ⟨gb139, 3, none⟩ (.int .i64 (rd x8_4 2))).heap[gb139]? = some (.cells #[.int .i64 (ji30), .int .i64 (rd x8_4 0), .int .i64 (rd x8_4 1), .int .i64 (rd x8_4 2), .int .i64 0, .int .i64 0, .int .i64 0, .string (⟨#[]⟩ : ByteArray)] 32 (0, 0))) := ⟨by (with_reducible repeat (first | refine bA ?_ _ | refine bB ?_ | refine bC ?_ _)); refine bH (cs := #[.int .i64 (ji30), .int .i64 (rd x8_4 0), .int .i64 (rd x8_4 1), .int .i64 0, .int .i64 0, .int .i64 0, .int .i64 0, .string (⟨#[]⟩ : ByteArray)]) ?_ 3 _ rfl; (with_reducible repeat (first | refine bA ?_ _ | refine bB ?_ | refine bC ?_ _)); refine bH (cs := #[.int .i64 (ji30), .int .i64 (rd x8_4 0), .int .i64 0, .int .i64 0, .int .i64 0, .int .i64 0, .int .i64 0, .string (⟨#[]⟩ : ByteArray)]) ?_ 2 _ rfl; (with_reducible repeat (first | refine bA ?_ _ | refine bB ?_ | refine bC ?_ _)); refine bH (cs := #[.int .i64 (ji30), .int .i64 (rd x8_4 0), .int .i64 0, .int .i64 0, .int .i64 0, .int .i64 0, .int .i64 0, .string (⟨#[]⟩ : ByteArray)]) ?_ 7 _ rfl; (with_reducible repeat (first | refine bA ?_ _ | refine bB ?_ | refine bC ?_ _)); refine bH (cs := #[.int .i64 (ji30), .int .i64 (rd x8_4 0), .int .i64 0, .int .i64 0, .int .i64 0, .int .i64 0, .int .i64 0, .string (⟨#[]⟩ : ByteArray)]) ?_ 6 _ rfl; (with_reducible repeat (first | refine bA ?_ _ | refine bB ?_ | refine bC ?_ _)); refine bH (cs := #[.int .i64 (ji30), .int .i64 (rd x8_4 0), .int .i64 0, .int .i64 0, .int .i64 0, .int .i64 0, .int .i64 0, .string (⟨#[]⟩ : ByteArray)]) ?_ 5 _ rfl; (with_reducible repeat (first | refine bA ?_ _ | refine bB ?_ | refine bC ?_ _)); refine bH (cs := #[.int .i64 (ji30), .int .i64 (rd x8_4 0), .int .i64 0, .int .i64 0, .int .i64 0, .int .i64 0, .int .i64 0, .string (⟨#[]⟩ : ByteArray)]) ?_ 4 _ rfl; (with_reducible repeat (first | refine bA ?_ _ | refine bB ?_ | refine bC ?_ _)); refine bH (cs := #[.int .i64 (ji30), .int .i64 (rd x8_4 0), .int .i64 0, .int .i64 0, .int .i64 0, .int .i64 0, .int .i64 0, .string (⟨#[]⟩ : ByteArray)]) ?_ 3 _ rfl; (with_reducible repeat (first | refine bA ?_ _ | refine bB ?_ | refine bC ?_ _)); refine bH (cs := #[.int .i64 (ji30), .int .i64 (rd x8_4 0), .int .i64 0, .int .i64 0, .int .i64 0, .int .i64 0, .int .i64 0, .string (⟨#[]⟩ : ByteArray)]) ?_ 2 _ rfl; (with_reducible repeat (first | refine bA ?_ _ | refine bB ?_ | refine bC ?_ _)); refine bH (cs := #[.int .i64 (ji30), .int .i64 0, .int .i64 0, .int .i64 0, .int .i64 0, .int .i64 0, .int .i64 0, .string (⟨#[]⟩ : ByteArray)]) ?_ 1 _ rfl; (with_reducible repeat (first | refine bA ?_ _ | refine bB ?_ | refine bC ?_ _)); refine bH (cs := #[.int .i64 0, .int .i64 0, .int .i64 0, .int .i64 0, .int .i64 0, .int .i64 0, .int .i64 0, .string (⟨#[]⟩ : ByteArray)]) ?_ 0 _ rfl; (with_reducible repeat (first | refine bA ?_ _ | refine bB ?_ | refine bC ?_ _)); exact BK139.out⟩
                        have n4_ : Aside0 (Below w.heap.size w ((((((((((w53.setCell ⟨gb139, 0, none⟩ (.int .i64 (ji30))).setCell ⟨gb139, 1, none⟩ (.int .i64 (rd x8_4 0))).setCell ⟨gb139, 2, none⟩ (.int .i64 0)).setCell ⟨gb139, 3, none⟩ (.int .i64 0)).setCell ⟨gb139, 4, none⟩ (.int .i64 0)).setCell ⟨gb139, 5, none⟩ (.int .i64 0)).setCell ⟨gb139, 6, none⟩ (.int .i64 0)).setCell ⟨gb139, 7, none⟩ (.string (⟨#[]⟩ : ByteArray))).setCell ⟨gb139, 2, none⟩ (.int .i64 (rd x8_4 1))).setCell ⟨gb139, 3, none⟩ (.int .i64 (rd x8_4 2)))) := ⟨by repeat (first | (with_reducible first | exact HB.out | apply bE | apply bD | apply bF | refine below_set ?_ GE118.out | refine below_set ?_ GE119.out | refine below_set ?_ GE139.out) | exact HB.out)⟩
                        (try clear HO_8)
                        (try clear BK118)
                        (try clear BK119)
                        (try clear BK139)
                        (try clear HB)
                        generalize ((((((((((w53.setCell ⟨gb139, 0, none⟩ (.int .i64 (ji30))).setCell ⟨gb139, 1, none⟩ (.int .i64 (rd x8_4 0))).setCell ⟨gb139, 2, none⟩ (.int .i64 0)).setCell ⟨gb139, 3, none⟩ (.int .i64 0)).setCell ⟨gb139, 4, none⟩ (.int .i64 0)).setCell ⟨gb139, 5, none⟩ (.int .i64 0)).setCell ⟨gb139, 6, none⟩ (.int .i64 0)).setCell ⟨gb139, 7, none⟩ (.string (⟨#[]⟩ : ByteArray))).setCell ⟨gb139, 2, none⟩ (.int .i64 (rd x8_4 1))).setCell ⟨gb139, 3, none⟩ (.int .i64 (rd x8_4 2))) = w85 at n0_ n1_ n2_ n3_ n4_ ⊢
                        have HO_8 := n0_
                        have BK118 := n1_
                        have BK119 := n2_
                        have BK139 := n3_
                        have HB := n4_
                        clear n0_ n1_ n2_ n3_ n4_
                        have n0_ := zM (Kd.R_drew HO_8.out)
                        have n1_ := zM (bB BK118.out)
                        have n2_ := zM (bB BK119.out)
                        have n3_ := zM (bB BK139.out)
                        have n4_ := zM (bF HB.out)
                        clear HO_8
                        clear BK118
                        clear BK119
                        clear BK139
                        clear HB
                        have HO_8 := n0_
                        have BK118 := n1_
                        have BK119 := n2_
                        have BK139 := n3_
                        have HB := n4_
                        clear n0_ n1_ n2_ n3_ n4_
                        have p147 : 0 ≤ (3 : Int) := (by omega)
                        have q147 : 3 < (x8_4.length : Int) := of_decide_eq_true (by first | (with_reducible assumption) | assumption)
                        obtain ⟨ad147, e147, hx147_0⟩ := Kd.at_int (Kd.R_reads' HO_8.out).2.2 3 p147 q147
                        obtain rfl : ad138 = ad147 := (by injection e147)
                        (try simp only [show (3 : Int).toNat = 3 from rfl, Nat.reduceMul, Nat.reduceEqDiff, Go.Addr.add, ↓reduceIte] at hx147_0)
                        have qi147 : (3 < x8_4.length) = True := eq_true (by omega)
                        (try rw [show ((3 : Int)).toNat = 3 from rfl] at hx147_0)
                        replace p147 := eq_true p147
                        replace q147 := eq_true q147
                        (try (have q147d := q147; simp only [List.length_drop] at q147d))
                        (try (have q147e := of_eq_true q147; rw [List.length_take] at q147e; replace q147e := Int.lt_of_lt_of_le q147e (Int.ofNat_le.mpr (Nat.min_le_left _ _)); rw [Int.ofNat_toNat] at q147e; have q147g := eq_false (Int.not_le.mpr q147e); replace q147e := eq_true q147e))
                        have p149 : 0 ≤ (4 : Int) := (by omega)
                        have q149 : 4 < (x8_4.length : Int) := of_decide_eq_true (by first | (with_reducible assumption) | assumption)
                        obtain ⟨ad149, e149, hx149_0⟩ := Kd.at_int (Kd.R_reads' HO_8.out).2.2 4 p149 q149
                        obtain rfl : ad138 = ad149 := (by injection e149)
                        (try simp only [show (4 : Int).toNat = 4 from rfl, Nat.reduceMul, Nat.reduceEqDiff, Go.Addr.add, ↓reduceIte] at hx149_0)
                        have qi149 : (4 < x8_4.length) = True := eq_true (by omega)
                        (try rw [show ((4 : Int)).toNat = 4 from rfl] at hx149_0)
                        replace p149 := eq_true p149
                        replace q149 := eq_true q149
                        (try (have q149d := q149; simp only [List.length_drop] at q149d))
                        (try (have q149e := of_eq_true q149; rw [List.length_take] at q149e; replace q149e := Int.lt_of_lt_of_le q149e (Int.ofNat_le.mpr (Nat.min_le_left _ _)); rw [Int.ofNat_toNat] at q149e; have q149g := eq_false (Int.not_le.mpr q149e); replace q149e := eq_true q149e))
                        refine start_ (n := 11) (S := fun w' => w'.cell? ⟨ad138.block, ad138.off + 3, none⟩ = some (.int .i64 (rd x8_4 3)) ∧ w'.cell? ⟨ad138.block, ad138.off + 4, none⟩ = some (.int .i64 (rd x8_4 4))) (ds := []) #[false, false, false, false, false, false, false, false, false, false, false] (by kernel_rfl) rfl rfl ⟨hx147_0, hx149_0⟩ (fun hHeld => ?_); refine with_tabW spec_Unpack.tab34 spec_Unpack.bits34 (fun HT_ HW_ => ?_)
                        generalize w85.drew = w86 at HO_8 BK118 BK119 BK139 HB hx147_0 hx149_0 hHeld ⊢
                        refine pure_ (i := 0) (N := some 127) (v := ?_) (a' := ?_) #[true, false, false, false, false, false, false, false, false, false, false] rfl rfl (any_of HT_.out (by kernel_rfl)) (fun _ _ _ h => h) (Or.inl ⟨by rfl, ?_⟩) ?_ ?_
                        rotate_left
                        ·intro w'
                         go_simp
                         with_reducible rfl
                        rotate_left
                        ·simp only [Act.put, zS, z0, z1, i64_w, i32_w]
                         rfl
                        refine pure_ (i := 1) (N := some 128) (v := ?_) (a' := ?_) #[true, true, false, false, false, false, false, false, false, false, false] rfl rfl (any_of HT_.out (by kernel_rfl)) (fun _ _ _ h => h) (Or.inl ⟨by rfl, ?_⟩) ?_ ?_
                        rotate_left
                        ·intro w'
                         go_simp
                         with_reducible rfl
                        rotate_left
                        ·simp only [Act.put, zS, z0, z1, i64_w, i32_w]
                         rfl
                        refine pure_ (i := 4) (N := some 131) (v := ?_) (a' := ?_) #[true, true, false, false, true, false, false, false, false, false, false] rfl rfl (any_of HT_.out (by kernel_rfl)) (fun _ _ _ h => h) (Or.inl ⟨by rfl, ?_⟩) ?_ ?_
                        rotate_left
                        ·intro w'
                         go_simp
                         with_reducible rfl
                        rotate_left
                        ·simp only [Act.put, zS, z0, z1, i64_w, i32_w]
                         rfl
                        refine pure_ (i := 5) (N := some 132) (v := ?_) (a' := ?_) #[true, true, false, false, true, true, false, false, false, false, false] rfl rfl (any_of HT_.out (by kernel_rfl)) (fun _ _ _ h => h) (Or.inl ⟨by rfl, ?_⟩) ?_ ?_
                        rotate_left
                        ·intro w'
                         go_simp
                         with_reducible rfl
                        rotate_left
                        ·simp only [Act.put, zS, z0, z1, i64_w, i32_w]
                         rfl
                        refine take_ (i := 2) (N := some 129) (v := ?_) (a' := ?_) #[true, true, true, false, true, true, false, false, false, false, false] rfl rfl (take_ofW HT_.out HW_.out (by kernel_rfl)) (fun _ _ _ h => h) (Or.inl ⟨by rfl, ?_⟩) hHeld ?_ ?_
                        rotate_left
                        ·rintro w' ⟨s0, s1⟩
                         go_simp
                         with_reducible rfl
                        rotate_left
                        ·simp only [Act.put, zS, z0, z1, i64_w, i32_w]
                         rfl
                        refine take_ (i := 6) (N := some 133) (v := ?_) (a' := ?_) #[true, true, true, false, true, true, true, false, false, false, false] rfl rfl (take_ofW HT_.out HW_.out (by kernel_rfl)) (fun _ _ _ h => h) (Or.inl ⟨by rfl, ?_⟩) hHeld ?_ ?_
                        rotate_left
                        ·rintro w' ⟨s0, s1⟩
                         go_simp
                         with_reducible rfl
                        rotate_left
                        ·simp only [Act.put, zS, z0, z1, i64_w, i32_w]
                         rfl
                        refine one_ (i := 3) (N := some 130) #[true, true, true, true, true, true, true, false, false, false, false] rfl rfl (one_of HT_.out (by kernel_rfl)) (by decide) (fun K hK => ?_)
                        refine goes_ Try.func45 (by kernel_rfl) rfl #[.int .i64 (rd x8_4 3)] (by rfl) rfl rfl (by (try simp only [List.map_toArray, List.map_cons, List.map_nil]); first | done | rfl | (simp only [List.length_drop, List.length_take]; rfl)) ?_
                        with_reducible refine (spec_l4End.calls (rd x8_4 3) t148 _ A79.out).mono ?_
                        rintro e w' ⟨rfl, ⟨nd, rfl⟩⟩
                        refine ⟨_, rfl, ?_⟩
                        refine hK.out _ _ ⟨hHeld.1, hHeld.2⟩ (fun hHeld => ?_)
                        clear hK K
                        refine norm_ (a' := ?_) ?_ ?_
                        rotate_left
                        ·show Act.put _ (some 130) _ = _
                         simp only [Act.put, zS, z0, z1, i64_w, i32_w]
                         rfl
                        refine one_ (i := 7) (N := some 134) #[true, true, true, true, true, true, true, true, false, false, false] rfl rfl (one_of HT_.out (by kernel_rfl)) (by decide) (fun K hK => ?_)
                        refine goes_ Try.func45 (by kernel_rfl) rfl #[.int .i64 (rd x8_4 4)] (by rfl) rfl rfl (by (try simp only [List.map_toArray, List.map_cons, List.map_nil]); first | done | rfl | (simp only [List.length_drop, List.length_take]; rfl)) ?_
                        with_reducible refine (spec_l4End.calls (rd x8_4 4) t150 _ A81.out).mono ?_
                        rintro e w' ⟨rfl, ⟨nd, rfl⟩⟩
                        refine ⟨_, rfl, ?_⟩
                        refine hK.out _ _ ⟨hHeld.1, hHeld.2⟩ (fun hHeld => ?_)
                        clear hK K
                        refine norm_ (a' := ?_) ?_ ?_
                        rotate_left
                        ·show Act.put _ (some 134) _ = _
                         simp only [Act.put, zS, z0, z1, i64_w, i32_w]
                         rfl
                        refine pure_ (i := 8) (N := some 135) (v := ?_) (a' := ?_) #[true, true, true, true, true, true, true, true, true, false, false] rfl rfl (any_of HT_.out (by kernel_rfl)) (fun _ _ _ h => h) (Or.inl ⟨by rfl, ?_⟩) ?_ ?_
                        rotate_left
                        ·intro w'
                         go_simp
                         with_reducible rfl
                        rotate_left
                        ·simp only [Act.put, zS, z0, z1, i64_w, i32_w]
                         rfl
                        refine pure_ (i := 9) (N := some 136) (v := ?_) (a' := ?_) #[true, true, true, true, true, true, true, true, true, true, false] rfl rfl (any_of HT_.out (by kernel_rfl)) (fun _ _ _ h => h) (Or.inl ⟨by rfl, ?_⟩) ?_ ?_
                        rotate_left
                        ·intro w'
                         go_simp
                         with_reducible rfl
                        rotate_left
                        ·simp only [Act.put, zS, z0, z1, i64_w, i32_w]
                         rfl
                        refine one_ (i := 10) (N := none) #[true, true, true, true, true, true, true, true, true, true, true] rfl rfl (one_of HT_.out (by kernel_rfl)) (by decide) (fun K hK => ?_)
                        have hs87 : w86.cell? ⟨gb139, 4, none⟩ = some (.int .i64 0) := (blk_cell BK139.out 4).trans rfl
                        have hfs87 := blk_frozen BK139.out 4
                        have hns87_0 := NB118_139.out
                        have hns87_1 := NB119_139.out
                        have hms87_0 := NB139_118.out
                        have hms87_1 := NB139_119.out
                        have hs88 : w86.cell? ⟨gb139, 5, none⟩ = some (.int .i64 0) := (blk_cell BK139.out 5).trans rfl
                        have hfs88 := blk_frozen BK139.out 5
                        have hns88_0 := NB118_139.out
                        have hns88_1 := NB119_139.out
                        have hms88_0 := NB139_118.out
                        have hms88_1 := NB139_119.out
                        refine skip_ (w1 := ?_) (by rfl) rfl ?_ ?_
                        rotate_left
                        ·go_simp
                         rfl
                        (try simp only [World.drewN_drewN] at hHeld)
                        have hb_ : ad138.block ≠ gb139 := Kd.own_blk (Kd.R_ne HO_8.out BK139.out (by decide))
                        have e1_ : ∀ (W : World) (o : Nat) (j : Nat) (v : Value), (W.setCell ⟨gb139, j, none⟩ v).cell? ⟨ad138.block, o, none⟩ = W.cell? ⟨ad138.block, o, none⟩ := fun W o j v => cell_far hb_ _
                        refine hK.out _ _ ?hold (fun hHeld => ?_)
                        case hold => simp only [e1_]; exact hHeld
                        clear hK K
                        refine done_ (done_of HT_.out (by kernel_rfl)) ?_
                        try go_wp2
                        go_meet
                        case rel => exact ⟨_, (x9_4), (x119000_4), (x119001_4), (x119002_4), (x119003_4), (x119004_4), (x119005_4), (x119006_4), (x119007_4), (rd x8_4 1), (rd x8_4 2), (t148), (t150), (0), ((⟨#[]⟩ : ByteArray)), (by first | rfl | (simp; done) | (simp [*]; done)), H', ⟨by have := HJ1.out; have := HJ15.out; have := HJ24.out; have := HK4.out; first | omega | exact Nat.le_refl _⟩, ⟨by (with_reducible repeat (first | refine bA ?_ _ | refine bB ?_ | refine bC ?_ _)); refine blk_far ?_ NB118_139.out _; (with_reducible repeat (first | refine bA ?_ _ | refine bB ?_ | refine bC ?_ _)); refine blk_far ?_ NB118_139.out _; (with_reducible repeat (first | refine bA ?_ _ | refine bB ?_ | refine bC ?_ _)); exact BK118.out⟩, ⟨by (with_reducible repeat (first | refine bA ?_ _ | refine bB ?_ | refine bC ?_ _)); refine blk_far ?_ NB119_139.out _; (with_reducible repeat (first | refine bA ?_ _ | refine bB ?_ | refine bC ?_ _)); refine blk_far ?_ NB119_139.out _; (with_reducible repeat (first | refine bA ?_ _ | refine bB ?_ | refine bC ?_ _)); exact BK119.out⟩, ⟨by (with_reducible repeat (first | refine bA ?_ _ | refine bB ?_ | refine bC ?_ _)); refine bH (cs := #[.int .i64 (ji30), .int .i64 (rd x8_4 0), .int .i64 (rd x8_4 1), .int .i64 (rd x8_4 2), .int .i64 t148, .int .i64 0, .int .i64 0, .string (⟨#[]⟩ : ByteArray)]) ?_ 5 _ rfl; (with_reducible repeat (first | refine bA ?_ _ | refine bB ?_ | refine bC ?_ _)); refine bH (cs := #[.int .i64 (ji30), .int .i64 (rd x8_4 0), .int .i64 (rd x8_4 1), .int .i64 (rd x8_4 2), .int .i64 0, .int .i64 0, .int .i64 0, .string (⟨#[]⟩ : ByteArray)]) ?_ 4 _ rfl; (with_reducible repeat (first | refine bA ?_ _ | refine bB ?_ | refine bC ?_ _)); exact BK139.out⟩, ⟨by repeat (first | (with_reducible first | exact HB.out | apply bE | apply bD | apply bF | refine below_set ?_ GE118.out | refine below_set ?_ GE119.out | refine below_set ?_ GE139.out) | exact HB.out)⟩⟩
                       ·rw [if_neg c80] at H
                        exact absurd H (by simp)
                      ·rw [if_neg c78] at H
                       exact absurd H (by simp)
                     ·rw [if_neg c77] at H
                      exact absurd H (by simp)
                    ·rw [if_neg c76] at H
                     exact absurd H (by simp)
                   ·rw [if_neg c75] at H
                    have c75b0 : ((ji30) == 2) = false := beq_eq_false_iff_ne.mpr c75
                    have c75b1 : ((ji30) != 2) = true := bne_iff_ne.mpr c75
                    by_cases c89 : 1 < (x8_4.length : Int)
                    ·rw [if_pos c89] at H
                     have c89b0 : decide (1 < (x8_4.length : Int)) = true := decide_eq_true c89
                     have c89b1 : decide (1 < x8_4.length) = true := decide_eq_true (by omega)
                     clear c89
                     by_cases c90 : 2 < (x8_4.length : Int)
                     ·rw [if_pos c90] at H
                      have c90b0 : decide (2 < (x8_4.length : Int)) = true := decide_eq_true c90
                      have c90b1 : decide (2 < x8_4.length) = true := decide_eq_true (by omega)
                      clear c90
                      have H' := zM H
                      clear H
                      have p151 : 0 ≤ (1 : Int) := (by omega)
                      have q151 : 1 < (x8_4.length : Int) := of_decide_eq_true (by first | (with_reducible assumption) | assumption)
                      obtain ⟨ad151, e151, hx151_0⟩ := Kd.at_int (Kd.R_reads' HO_8.out).2.2 1 p151 q151
                      obtain rfl : ad138 = ad151 := (by injection e151)
                      (try simp only [show (1 : Int).toNat = 1 from rfl, Nat.reduceMul, Nat.reduceEqDiff, Go.Addr.add, ↓reduceIte] at hx151_0)
                      have qi151 : (1 < x8_4.length) = True := eq_true (by omega)
                      (try rw [show ((1 : Int)).toNat = 1 from rfl] at hx151_0)
                      have hn151_0 : ad138.block ≠ gb139 := Kd.own_blk (Kd.R_ne HO_8.out BK139.out (by decide))
                      have hn151_1 : ad138.block ≠ gb139 := Kd.own_blk (Kd.R_ne HO_8.out BK139.out (by decide))
                      have hn151_2 : ad138.block ≠ gb139 := Kd.own_blk (Kd.R_ne HO_8.out BK139.out (by decide))
                      have hn151_3 : ad138.block ≠ gb139 := Kd.own_blk (Kd.R_ne HO_8.out BK139.out (by decide))
                      have hn151_4 : ad138.block ≠ gb139 := Kd.own_blk (Kd.R_ne HO_8.out BK139.out (by decide))
                      have hn151_5 : ad138.block ≠ gb139 := Kd.own_blk (Kd.R_ne HO_8.out BK139.out (by decide))
                      have hn151_6 : ad138.block ≠ gb139 := Kd.own_blk (Kd.R_ne HO_8.out BK139.out (by decide))
                      have hn151_7 : ad138.block ≠ gb139 := Kd.own_blk (Kd.R_ne HO_8.out BK139.out (by decide))
                      replace hx151_0 := (cell_far (p := ⟨gb139, 0, none⟩) (by first | (rw [add_block]; exact hn151_0) | (show (Addr.add _ _).block ≠ _; rw [add_block]; exact hn151_0) | exact hn151_0) (.int .i64 (ji30))).trans hx151_0
                      replace hx151_0 := (cell_far (p := ⟨gb139, 1, none⟩) (by first | (rw [add_block]; exact hn151_1) | (show (Addr.add _ _).block ≠ _; rw [add_block]; exact hn151_1) | exact hn151_1) (.int .i64 (rd x8_4 0))).trans hx151_0
                      replace hx151_0 := (cell_far (p := ⟨gb139, 2, none⟩) (by first | (rw [add_block]; exact hn151_2) | (show (Addr.add _ _).block ≠ _; rw [add_block]; exact hn151_2) | exact hn151_2) (.int .i64 0)).trans hx151_0
                      replace hx151_0 := (cell_far (p := ⟨gb139, 3, none⟩) (by first | (rw [add_block]; exact hn151_3) | (show (Addr.add _ _).block ≠ _; rw [add_block]; exact hn151_3) | exact hn151_3) (.int .i64 0)).trans hx151_0
                      replace hx151_0 := (cell_far (p := ⟨gb139, 4, none⟩) (by first | (rw [add_block]; exact hn151_4) | (show (Addr.add _ _).block ≠ _; rw [add_block]; exact hn151_4) | exact hn151_4) (.int .i64 0)).trans hx151_0
                      replace hx151_0 := (cell_far (p := ⟨gb139, 5, none⟩) (by first | (rw [add_block]; exact hn151_5) | (show (Addr.add _ _).block ≠ _; rw [add_block]; exact hn151_5) | exact hn151_5) (.int .i64 0)).trans hx151_0
                      replace hx151_0 := (cell_far (p := ⟨gb139, 6, none⟩) (by first | (rw [add_block]; exact hn151_6) | (show (Addr.add _ _).block ≠ _; rw [add_block]; exact hn151_6) | exact hn151_6) (.int .i64 0)).trans hx151_0
                      replace hx151_0 := (cell_far (p := ⟨gb139, 7, none⟩) (by first | (rw [add_block]; exact hn151_7) | (show (Addr.add _ _).block ≠ _; rw [add_block]; exact hn151_7) | exact hn151_7) (.string (⟨#[]⟩ : ByteArray))).trans hx151_0
                      clear hn151_0
                      clear hn151_1
                      clear hn151_2
                      clear hn151_3
                      clear hn151_4
                      clear hn151_5
                      clear hn151_6
                      clear hn151_7
                      replace p151 := eq_true p151
                      replace q151 := eq_true q151
                      (try (have q151d := q151; simp only [List.length_drop] at q151d))
                      (try (have q151e := of_eq_true q151; rw [List.length_take] at q151e; replace q151e := Int.lt_of_lt_of_le q151e (Int.ofNat_le.mpr (Nat.min_le_left _ _)); rw [Int.ofNat_toNat] at q151e; have q151g := eq_false (Int.not_le.mpr q151e); replace q151e := eq_true q151e))
                      have hnb91 := NB139_118.out
                      have hnc91 := NB118_139.out
                      have hnb92 := NB139_119.out
                      have hnc92 := NB119_139.out
                      have hcz93_0 : w53.cell? ⟨gb139, 0, none⟩ = some (.int .i64 0) := (blk_cell BK139.out 0).trans rfl
                      have hcz93_1 : w53.cell? ⟨gb139, 1, none⟩ = some (.int .i64 0) := (blk_cell BK139.out 1).trans rfl
                      have hcz93_2 : w53.cell? ⟨gb139, 2, none⟩ = some (.int .i64 0) := (blk_cell BK139.out 2).trans rfl
                      have hcz93_3 : w53.cell? ⟨gb139, 3, none⟩ = some (.int .i64 0) := (blk_cell BK139.out 3).trans rfl
                      have hcz93_4 : w53.cell? ⟨gb139, 4, none⟩ = some (.int .i64 0) := (blk_cell BK139.out 4).trans rfl
                      have hcz93_5 : w53.cell? ⟨gb139, 5, none⟩ = some (.int .i64 0) := (blk_cell BK139.out 5).trans rfl
                      have hcz93_6 : w53.cell? ⟨gb139, 6, none⟩ = some (.int .i64 0) := (blk_cell BK139.out 6).trans rfl
                      have hcz93_7 : w53.cell? ⟨gb139, 7, none⟩ = some (.string (⟨#[]⟩ : ByteArray)) := (blk_cell BK139.out 7).trans rfl
                      have hfz93_0 := blk_frozen BK139.out 0
                      have hfz93_1 := blk_frozen BK139.out 1
                      have hfz93_2 := blk_frozen BK139.out 2
                      have hfz93_3 := blk_frozen BK139.out 3
                      have hfz93_4 := blk_frozen BK139.out 4
                      have hfz93_5 := blk_frozen BK139.out 5
                      have hfz93_6 := blk_frozen BK139.out 6
                      have hfz93_7 := blk_frozen BK139.out 7
                      have p152 : 0 ≤ (2 : Int) := (by omega)
                      have q152 : 2 < (x8_4.length : Int) := of_decide_eq_true (by first | (with_reducible assumption) | assumption)
                      obtain ⟨ad152, e152, hx152_0⟩ := Kd.at_int (Kd.R_reads' HO_8.out).2.2 2 p152 q152
                      obtain rfl : ad138 = ad152 := (by injection e152)
                      (try simp only [show (2 : Int).toNat = 2 from rfl, Nat.reduceMul, Nat.reduceEqDiff, Go.Addr.add, ↓reduceIte] at hx152_0)
                      have qi152 : (2 < x8_4.length) = True := eq_true (by omega)
                      (try rw [show ((2 : Int)).toNat = 2 from rfl] at hx152_0)
                      have hn152_0 : ad138.block ≠ gb139 := Kd.own_blk (Kd.R_ne HO_8.out BK139.out (by decide))
                      have hn152_1 : ad138.block ≠ gb139 := Kd.own_blk (Kd.R_ne HO_8.out BK139.out (by decide))
                      have hn152_2 : ad138.block ≠ gb139 := Kd.own_blk (Kd.R_ne HO_8.out BK139.out (by decide))
                      have hn152_3 : ad138.block ≠ gb139 := Kd.own_blk (Kd.R_ne HO_8.out BK139.out (by decide))
                      have hn152_4 : ad138.block ≠ gb139 := Kd.own_blk (Kd.R_ne HO_8.out BK139.out (by decide))
                      have hn152_5 : ad138.block ≠ gb139 := Kd.own_blk (Kd.R_ne HO_8.out BK139.out (by decide))
                      have hn152_6 : ad138.block ≠ gb139 := Kd.own_blk (Kd.R_ne HO_8.out BK139.out (by decide))
                      have hn152_7 : ad138.block ≠ gb139 := Kd.own_blk (Kd.R_ne HO_8.out BK139.out (by decide))
                      have hn152_8 : ad138.block ≠ gb139 := Kd.own_blk (Kd.R_ne HO_8.out BK139.out (by decide))
                      replace hx152_0 := (cell_far (p := ⟨gb139, 0, none⟩) (by first | (rw [add_block]; exact hn152_0) | (show (Addr.add _ _).block ≠ _; rw [add_block]; exact hn152_0) | exact hn152_0) (.int .i64 (ji30))).trans hx152_0
                      replace hx152_0 := (cell_far (p := ⟨gb139, 1, none⟩) (by first | (rw [add_block]; exact hn152_1) | (show (Addr.add _ _).block ≠ _; rw [add_block]; exact hn152_1) | exact hn152_1) (.int .i64 (rd x8_4 0))).trans hx152_0
                      replace hx152_0 := (cell_far (p := ⟨gb139, 2, none⟩) (by first | (rw [add_block]; exact hn152_2) | (show (Addr.add _ _).block ≠ _; rw [add_block]; exact hn152_2) | exact hn152_2) (.int .i64 0)).trans hx152_0
                      replace hx152_0 := (cell_far (p := ⟨gb139, 3, none⟩) (by first | (rw [add_block]; exact hn152_3) | (show (Addr.add _ _).block ≠ _; rw [add_block]; exact hn152_3) | exact hn152_3) (.int .i64 0)).trans hx152_0
                      replace hx152_0 := (cell_far (p := ⟨gb139, 4, none⟩) (by first | (rw [add_block]; exact hn152_4) | (show (Addr.add _ _).block ≠ _; rw [add_block]; exact hn152_4) | exact hn152_4) (.int .i64 0)).trans hx152_0
                      replace hx152_0 := (cell_far (p := ⟨gb139, 5, none⟩) (by first | (rw [add_block]; exact hn152_5) | (show (Addr.add _ _).block ≠ _; rw [add_block]; exact hn152_5) | exact hn152_5) (.int .i64 0)).trans hx152_0
                      replace hx152_0 := (cell_far (p := ⟨gb139, 6, none⟩) (by first | (rw [add_block]; exact hn152_6) | (show (Addr.add _ _).block ≠ _; rw [add_block]; exact hn152_6) | exact hn152_6) (.int .i64 0)).trans hx152_0
                      replace hx152_0 := (cell_far (p := ⟨gb139, 7, none⟩) (by first | (rw [add_block]; exact hn152_7) | (show (Addr.add _ _).block ≠ _; rw [add_block]; exact hn152_7) | exact hn152_7) (.string (⟨#[]⟩ : ByteArray))).trans hx152_0
                      replace hx152_0 := (cell_far (p := ⟨gb139, 2, none⟩) (by first | (rw [add_block]; exact hn152_8) | (show (Addr.add _ _).block ≠ _; rw [add_block]; exact hn152_8) | exact hn152_8) (.int .i64 (rd x8_4 1))).trans hx152_0
                      clear hn152_0
                      clear hn152_1
                      clear hn152_2
                      clear hn152_3
                      clear hn152_4
                      clear hn152_5
                      clear hn152_6
                      clear hn152_7
                      clear hn152_8
                      replace p152 := eq_true p152
                      replace q152 := eq_true q152
                      (try (have q152d := q152; simp only [List.length_drop] at q152d))
                      (try (have q152e := of_eq_true q152; rw [List.length_take] at q152e; replace q152e := Int.lt_of_lt_of_le q152e (Int.ofNat_le.mpr (Nat.min_le_left _ _)); rw [Int.ofNat_toNat] at q152e; have q152g := eq_false (Int.not_le.mpr q152e); replace q152e := eq_true q152e))
                      go_wp2
                      go_meet
                      case rel => exact ⟨_, (x9_4), (x119000_4), (x119001_4), (x119002_4), (x119003_4), (x119004_4), (x119005_4), (x119006_4), (x119007_4), (rd x8_4 1), (rd x8_4 2), (0), (0), (0), ((⟨#[]⟩ : ByteArray)), (by first | rfl | (simp; done) | (simp [*]; done)), H', ⟨by have := HJ1.out; have := HJ15.out; have := HJ24.out; have := HK4.out; first | omega | exact Nat.le_refl _⟩, ⟨by (with_reducible repeat (first | refine bA ?_ _ | refine bB ?_ | refine bC ?_ _)); refine blk_far ?_ NB118_139.out _; (with_reducible repeat (first | refine bA ?_ _ | refine bB ?_ | refine bC ?_ _)); refine blk_far ?_ NB118_139.out _; (with_reducible repeat (first | refine bA ?_ _ | refine bB ?_ | refine bC ?_ _)); refine blk_far ?_ NB118_139.out _; (with_reducible repeat (first | refine bA ?_ _ | refine bB ?_ | refine bC ?_ _)); refine blk_far ?_ NB118_139.out _; (with_reducible repeat (first | refine bA ?_ _ | refine bB ?_ | refine bC ?_ _)); refine blk_far ?_ NB118_139.out _; (with_reducible repeat (first | refine bA ?_ _ | refine bB ?_ | refine bC ?_ _)); refine blk_far ?_ NB118_139.out _; (with_reducible repeat (first | refine bA ?_ _ | refine bB ?_ | refine bC ?_ _)); refine blk_far ?_ NB118_139.out _; (with_reducible repeat (first | refine bA ?_ _ | refine bB ?_ | refine bC ?_ _)); refine blk_far ?_ NB118_139.out _; (with_reducible repeat (first | refine bA ?_ _ | refine bB ?_ | refine bC ?_ _)); refine blk_far ?_ NB118_139.out _; (with_reducible repeat (first | refine bA ?_ _ | refine bB ?_ | refine bC ?_ _)); refine blk_far ?_ NB118_139.out _; (with_reducible repeat (first | refine bA ?_ _ | refine bB ?_ | refine bC ?_ _)); exact BK118.out⟩, ⟨by (with_reducible repeat (first | refine bA ?_ _ | refine bB ?_ | refine bC ?_ _)); refine blk_far ?_ NB119_139.out _; (with_reducible repeat (first | refine bA ?_ _ | refine bB ?_ | refine bC ?_ _)); refine blk_far ?_ NB119_139.out _; (with_reducible repeat (first | refine bA ?_ _ | refine bB ?_ | refine bC ?_ _)); refine blk_far ?_ NB119_139.out _; (with_reducible repeat (first | refine bA ?_ _ | refine bB ?_ | refine bC ?_ _)); refine blk_far ?_ NB119_139.out _; (with_reducible repeat (first | refine bA ?_ _ | refine bB ?_ | refine bC ?_ _)); refine blk_far ?_ NB119_139.out _; (with_reducible repeat (first | refine bA ?_ _ | refine bB ?_ | refine bC ?_ _)); refine blk_far ?_ NB119_139.out _; (with_reducible repeat (first | refine bA ?_ _ | refine bB ?_ | refine bC ?_ _)); refine blk_far ?_ NB119_139.out _; (with_reducible repeat (first | refine bA ?_ _ | refine bB ?_ | refine bC ?_ _)); refine blk_far ?_ NB119_139.out _; (with_reducible repeat (first | refine bA ?_ _ | refine bB ?_ | refine bC ?_ _)); refine blk_far ?_ NB119_139.out _; (with_reducible repeat (first | refine bA ?_ _ | refine bB ?_ | refine bC ?_ _)); refine blk_far ?_ NB119_139.out _; (with_reducible repeat (first | refine bA ?_ _ | refine bB ?_ | refine bC ?_ _)); exact BK119.out⟩, ⟨by (with_reducible repeat (first | refine bA ?_ _ | refine bB ?_ | refine bC ?_ _)); refine bH (cs := #[.int .i64 (ji30), .int .i64 (rd x8_4 0), .int .i64 (rd x8_4 1), .int .i64 0, .int .i64 0, .int .i64 0, .int .i64 0, .string (⟨#[]⟩ : ByteArray)]) ?_ 3 _ rfl; (with_reducible repeat (first | refine bA ?_ _ | refine bB ?_ | refine bC ?_ _)); refine bH (cs := #[.int .i64 (ji30), .int .i64 (rd x8_4 0), .int .i64 0, .int .i64 0, .int .i64 0, .int .i64 0, .int .i64 0, .string (⟨#[]⟩ : ByteArray)]) ?_ 2 _ rfl; (with_reducible repeat (first | refine bA ?_ _ | refine bB ?_ | refine bC ?_ _)); refine bH (cs := #[.int .i64 (ji30), .int .i64 (rd x8_4 0), .int .i64 0, .int .i64 0, .int .i64 0, .int .i64 0, .int .i64 0, .string (⟨#[]⟩ : ByteArray)]) ?_ 7 _ rfl; (with_reducible repeat (first | refine bA ?_ _ | refine bB ?_ | refine bC ?_ _)); refine bH (cs := #[.int .i64 (ji30), .int .i64 (rd x8_4 0), .int .i64 0, .int .i64 0, .int .i64 0, .int .i64 0, .int .i64 0, .string (⟨#[]⟩ : ByteArray)]) ?_ 6 _ rfl; (with_reducible repeat (first | refine bA ?_ _ | refine bB ?_ | refine bC ?_ _)); refine bH (cs := #[.int .i64 (ji30), .int .i64 (rd x8_4 0), .int .i64 0, .int .i64 0, .int .i64 0, .int .i64 0, .int .i64 0, .string (⟨#[]⟩ : ByteArray)]) ?_ 5 _ rfl; (with_reducible repeat (first | refine bA ?_ _ | refine bB ?_ | refine bC ?_ _)); refine bH (cs := #[.int .i64 (ji30), .int .i64 (rd x8_4 0), .int .i64 0, .int .i64 0, .int .i64 0, .int .i64 0, .int .i64 0, .string (⟨#[]⟩ : ByteArray)]) ?_ 4 _ rfl; (with_reducible repeat (first | refine bA ?_ _ | refine bB ?_ | refine bC ?_ _)); refine bH (cs := #[.int .i64 (ji30), .int .i64 (rd x8_4 0), .int .i64 0, .int .i64 0, .int .i64 0, .int .i64 0, .int .i64 0, .string (⟨#[]⟩ : ByteArray)]) ?_ 3 _ rfl; (with_reducible repeat (first | refine bA ?_ _ | refine bB ?_ | refine bC ?_ _)); refine bH (cs := #[.int .i64 (ji30), .int .i64 (rd x8_4 0), .int .i64 0, .int .i64 0, .int .i64 0, .int .i64 0, .int .i64 0, .string (⟨#[]⟩ : ByteArray)]) ?_ 2 _ rfl; (with_reducible repeat (first | refine bA ?_ _ | refine bB ?_ | refine bC ?_ _)); refine bH (cs := #[.int .i64 (ji30), .int .i64 0, .int .i64 0, .int .i64 0, .int .i64 0, .int .i64 0, .int .i64 0, .string (⟨#[]⟩ : ByteArray)]) ?_ 1 _ rfl; (with_reducible repeat (first | refine bA ?_ _ | refine bB ?_ | refine bC ?_ _)); refine bH (cs := #[.int .i64 0, .int .i64 0, .int .i64 0, .int .i64 0, .int .i64 0, .int .i64 0, .int .i64 0, .string (⟨#[]⟩ : ByteArray)]) ?_ 0 _ rfl; (with_reducible repeat (first | refine bA ?_ _ | refine bB ?_ | refine bC ?_ _)); exact BK139.out⟩, ⟨by repeat (first | (with_reducible first | exact HB.out | apply bE | apply bD | apply bF | refine below_set ?_ GE118.out | refine below_set ?_ GE119.out | refine below_set ?_ GE139.out) | exact HB.out)⟩⟩
                     ·rw [if_neg c90] at H
                      exact absurd H (by simp)
                    ·rw [if_neg c89] at H
                     exact absurd H (by simp)
                 case rest =>
                  clear HC51
                  try clear p1
                  try clear q1
                  try clear hx1
                  try clear qi1
                  try clear p2
                  try clear c4
                  try clear c5
                  try clear c6
                  try clear p6
                  try clear c7
                  try clear hcv7
                  try clear c8
                  try clear c9
                  try clear p14
                  try clear q14
                  try clear hx14
                  try clear qi14
                  try clear p15
                  try clear q15
                  try clear hx15
                  try clear qi15
                  try clear c45
                  try clear c57
                  try clear c57b0
                  try clear c57b1
                  try clear c58
                  try clear c59
                  try clear p64
                  try clear c67
                  try clear c68
                  try clear c69
                  try clear c70
                  try clear c71
                  try clear hcv74
                  try clear c75
                  try clear c75b0
                  try clear c75b1
                  try clear c76
                  try clear c76b0
                  try clear c76b1
                  try clear c77
                  try clear c77b0
                  try clear c77b1
                  try clear c78
                  try clear c78b0
                  try clear c78b1
                  try clear c80
                  try clear c80b0
                  try clear c80b1
                  try clear c82
                  try clear c83
                  try clear c89
                  try clear c89b0
                  try clear c89b1
                  try clear c90
                  try clear c90b0
                  try clear c90b1
                  try clear c91
                  try clear c92
                  try clear hcz72_0
                  try clear hcz72_1
                  try clear hcz72_2
                  try clear hcz72_3
                  try clear hcz72_4
                  try clear hcz72_5
                  try clear hcz72_6
                  try clear hcz72_7
                  try clear hcz84_0
                  try clear hcz84_1
                  try clear hcz84_2
                  try clear hcz84_3
                  try clear hcz84_4
                  try clear hcz84_5
                  try clear hcz84_6
                  try clear hcz84_7
                  try clear hcz93_0
                  try clear hcz93_1
                  try clear hcz93_2
                  try clear hcz93_3
                  try clear hcz93_4
                  try clear hcz93_5
                  try clear hcz93_6
                  try clear hcz93_7
                  try clear hfz72_0
                  try clear hfz72_1
                  try clear hfz72_2
                  try clear hfz72_3
                  try clear hfz72_4
                  try clear hfz72_5
                  try clear hfz72_6
                  try clear hfz72_7
                  try clear hfz84_0
                  try clear hfz84_1
                  try clear hfz84_2
                  try clear hfz84_3
                  try clear hfz84_4
                  try clear hfz84_5
                  try clear hfz84_6
                  try clear hfz84_7
                  try clear hfz93_0
                  try clear hfz93_1
                  try clear hfz93_2
                  try clear hfz93_3
                  try clear hfz93_4
                  try clear hfz93_5
                  try clear hfz93_6
                  try clear hfz93_7
                  try clear hx140_0
                  try clear hx141_0
                  try clear hx142_0
                  try clear hx144_0
                  try clear hx145_0
                  try clear hx146_0
                  try clear hx147_0
                  try clear hx149_0
                  try clear hx151_0
                  try clear hx152_0
                  try clear p140
                  try clear p141
                  try clear p142
                  try clear p144
                  try clear p145
                  try clear p146
                  try clear p147
                  try clear p149
                  try clear p151
                  try clear p152
                  try clear q140
                  try clear q141
                  try clear q142
                  try clear q144
                  try clear q145
                  try clear q146
                  try clear q147
                  try clear q149
                  try clear q151
                  try clear q152
                  obtain ⟨kq, x9_50, x119000_50, x119001_50, x119002_50, x119003_50, x119004_50, x119005_50, x119006_50, x119007_50, x140002_50, x140003_50, x140004_50, x140005_50, x140006_50, x140007_50, rfl, HA, HJ50, BK118, BK119, BK139, HB⟩ := hcut
                  cases kq with
                  | zero => exact absurd HA.out (by simp [spec_Unpack.j4])
                  | succ kj50 =>
                   have H := HA.out
                   clear HA
                   simp only [spec_Unpack.j4] at H
                   by_cases c94 : x9_50 < (yy17.length : Int)
                   ·rw [if_pos c94] at H
                    have c94b0 : decide (x9_50 < (yy17.length : Int)) = true := decide_eq_true c94
                    clear c94
                    simp only [zI, zJ] at H
                    obtain ⟨rfl, rfl, rfl, rfl, rfl, rfl, rfl, rfl, rfl⟩ := H
                    have hnb95 := NB119_118.out
                    have hnc95 := NB118_119.out
                    have hnb96 := NB119_139.out
                    have hnc96 := NB139_119.out
                    have hcz97_0 : wc.cell? ⟨gb119, 0, none⟩ = some (.int .i64 0) := (blk_cell BK119.out 0).trans rfl
                    have hcz97_1 : wc.cell? ⟨gb119, 1, none⟩ = some (.int .i64 0) := (blk_cell BK119.out 1).trans rfl
                    have hcz97_2 : wc.cell? ⟨gb119, 2, none⟩ = some (.int .i64 0) := (blk_cell BK119.out 2).trans rfl
                    have hcz97_3 : wc.cell? ⟨gb119, 3, none⟩ = some (.int .i64 0) := (blk_cell BK119.out 3).trans rfl
                    have hcz97_4 : wc.cell? ⟨gb119, 4, none⟩ = some (.int .i64 0) := (blk_cell BK119.out 4).trans rfl
                    have hcz97_5 : wc.cell? ⟨gb119, 5, none⟩ = some (.int .i64 0) := (blk_cell BK119.out 5).trans rfl
                    have hcz97_6 : wc.cell? ⟨gb119, 6, none⟩ = some (.int .i64 0) := (blk_cell BK119.out 6).trans rfl
                    have hcz97_7 : wc.cell? ⟨gb119, 7, none⟩ = some (.string (⟨#[]⟩ : ByteArray)) := (blk_cell BK119.out 7).trans rfl
                    have hfz97_0 := blk_frozen BK119.out 0
                    have hfz97_1 := blk_frozen BK119.out 1
                    have hfz97_2 := blk_frozen BK119.out 2
                    have hfz97_3 := blk_frozen BK119.out 3
                    have hfz97_4 := blk_frozen BK119.out 4
                    have hfz97_5 := blk_frozen BK119.out 5
                    have hfz97_6 := blk_frozen BK119.out 6
                    have hfz97_7 := blk_frozen BK119.out 7
                    have hnb98 := NB118_139.out
                    have hnc98 := NB139_118.out
                    have hcz99_0 : wc.cell? ⟨gb118, 0, none⟩ = some (.int .i64 x119000_50) := (blk_cell BK118.out 0).trans rfl
                    have hcz99_1 : wc.cell? ⟨gb118, 1, none⟩ = some (.int .i64 x119001_50) := (blk_cell BK118.out 1).trans rfl
                    have hcz99_2 : wc.cell? ⟨gb118, 2, none⟩ = some (.int .i64 x119002_50) := (blk_cell BK118.out 2).trans rfl
                    have hcz99_3 : wc.cell? ⟨gb118, 3, none⟩ = some (.int .i64 x119003_50) := (blk_cell BK118.out 3).trans rfl
                    have hcz99_4 : wc.cell? ⟨gb118, 4, none⟩ = some (.int .i64 x119004_50) := (blk_cell BK118.out 4).trans rfl
                    have hcz99_5 : wc.cell? ⟨gb118, 5, none⟩ = some (.int .i64 x119005_50) := (blk_cell BK118.out 5).trans rfl
                    have hcz99_6 : wc.cell? ⟨gb118, 6, none⟩ = some (.int .i64 x119006_50) := (blk_cell BK118.out 6).trans rfl
                    have hcz99_7 : wc.cell? ⟨gb118, 7, none⟩ = some (.string x119007_50) := (blk_cell BK118.out 7).trans rfl
                    have hfz99_0 := blk_frozen BK118.out 0
                    have hfz99_1 := blk_frozen BK118.out 1
                    have hfz99_2 := blk_frozen BK118.out 2
                    have hfz99_3 := blk_frozen BK118.out 3
                    have hfz99_4 := blk_frozen BK118.out 4
                    have hfz99_5 := blk_frozen BK118.out 5
                    have hfz99_6 := blk_frozen BK118.out 6
                    have hfz99_7 := blk_frozen BK118.out 7
                    go_wp2
                    refine bodyPost_ret (results_ct rfl _ _ gb118 32 #[.int .i64 0, .int .i64 0, .int .i64 0, .int .i64 0, .int .i64 0, .int .i64 0, .int .i64 0, .string (⟨#[]⟩ : ByteArray)] (0, 0) _ rfl (by (with_reducible repeat (first | refine bA ?_ _ | refine bB ?_ | refine bC ?_ _)); refine bH (cs := #[.int .i64 0, .int .i64 0, .int .i64 0, .int .i64 0, .int .i64 0, .int .i64 0, .int .i64 0, .string x119007_50]) ?_ 7 _ rfl; (with_reducible repeat (first | refine bA ?_ _ | refine bB ?_ | refine bC ?_ _)); refine bH (cs := #[.int .i64 0, .int .i64 0, .int .i64 0, .int .i64 0, .int .i64 0, .int .i64 0, .int .i64 x119006_50, .string x119007_50]) ?_ 6 _ rfl; (with_reducible repeat (first | refine bA ?_ _ | refine bB ?_ | refine bC ?_ _)); refine bH (cs := #[.int .i64 0, .int .i64 0, .int .i64 0, .int .i64 0, .int .i64 0, .int .i64 x119005_50, .int .i64 x119006_50, .string x119007_50]) ?_ 5 _ rfl; (with_reducible repeat (first | refine bA ?_ _ | refine bB ?_ | refine bC ?_ _)); refine bH (cs := #[.int .i64 0, .int .i64 0, .int .i64 0, .int .i64 0, .int .i64 x119004_50, .int .i64 x119005_50, .int .i64 x119006_50, .string x119007_50]) ?_ 4 _ rfl; (with_reducible repeat (first | refine bA ?_ _ | refine bB ?_ | refine bC ?_ _)); refine bH (cs := #[.int .i64 0, .int .i64 0, .int .i64 0, .int .i64 x119003_50, .int .i64 x119004_50, .int .i64 x119005_50, .int .i64 x119006_50, .string x119007_50]) ?_ 3 _ rfl; (with_reducible repeat (first | refine bA ?_ _ | refine bB ?_ | refine bC ?_ _)); refine bH (cs := #[.int .i64 0, .int .i64 0, .int .i64 x119002_50, .int .i64 x119003_50, .int .i64 x119004_50, .int .i64 x119005_50, .int .i64 x119006_50, .string x119007_50]) ?_ 2 _ rfl; (with_reducible repeat (first | refine bA ?_ _ | refine bB ?_ | refine bC ?_ _)); refine bH (cs := #[.int .i64 0, .int .i64 x119001_50, .int .i64 x119002_50, .int .i64 x119003_50, .int .i64 x119004_50, .int .i64 x119005_50, .int .i64 x119006_50, .string x119007_50]) ?_ 1 _ rfl; (with_reducible repeat (first | refine bA ?_ _ | refine bB ?_ | refine bC ?_ _)); refine bH (cs := #[.int .i64 x119000_50, .int .i64 x119001_50, .int .i64 x119002_50, .int .i64 x119003_50, .int .i64 x119004_50, .int .i64 x119005_50, .int .i64 x119006_50, .string x119007_50]) ?_ 0 _ rfl; (with_reducible repeat (first | refine bA ?_ _ | refine bB ?_ | refine bC ?_ _)); exact BK118.out) Try.underlying32 rfl (by kernel_rfl)) rfl ?_
                    exact ⟨by first | rfl | (simp only [← hji11, ← hji30]; first | rfl | (simp [errW_none, errW_some] <;> rfl)) | (simp [*, errW_none, errW_some] <;> rfl), by repeat (first | (with_reducible first | exact HB.out | apply bE | apply bD | apply bF | refine below_set ?_ GE118.out | refine below_set ?_ GE119.out | refine below_set ?_ GE139.out) | exact HB.out)⟩
                   ·rw [if_neg c94] at H
                    have c94b0 : decide (x9_50 < (yy17.length : Int)) = false := decide_eq_false c94
                    clear c94
                    replace H := zO H
                    obtain ⟨t153, A1000, H⟩ := H
                    replace H : (if t153 = true then (some ((ji30), (rd x8_4 0), x140002_50, x140003_50, x140004_50, x140005_50, x140006_50, x140007_50, 0)) else (some (0, 0, 0, 0, 0, 0, 0, (⟨#[]⟩ : ByteArray), 5))) = some (r1, r2, r3, r4, r5, r6, r7, r8, r9) := H
                    have A100 := zM A1000
                    clear A1000
                    by_cases c101 : t153 = true
                    ·subst c101
                     have H1 : (some ((ji30), (rd x8_4 0), x140002_50, x140003_50, x140004_50, x140005_50, x140006_50, x140007_50, 0)) = some (r1, r2, r3, r4, r5, r6, r7, r8, r9) := by rw [if_pos rfl] at H; exact H
                     clear H
                     have H := H1
                     clear H1
                     simp only [zI, zJ] at H
                     obtain ⟨rfl, rfl, rfl, rfl, rfl, rfl, rfl, rfl, rfl⟩ := H
                     have hnb102 := NB139_118.out
                     have hnc102 := NB118_139.out
                     have hnb103 := NB139_119.out
                     have hnc103 := NB119_139.out
                     have hcz104_0 : wc.cell? ⟨gb139, 0, none⟩ = some (.int .i64 (ji30)) := (blk_cell BK139.out 0).trans rfl
                     have hcz104_1 : wc.cell? ⟨gb139, 1, none⟩ = some (.int .i64 (rd x8_4 0)) := (blk_cell BK139.out 1).trans rfl
                     have hcz104_2 : wc.cell? ⟨gb139, 2, none⟩ = some (.int .i64 x140002_50) := (blk_cell BK139.out 2).trans rfl
                     have hcz104_3 : wc.cell? ⟨gb139, 3, none⟩ = some (.int .i64 x140003_50) := (blk_cell BK139.out 3).trans rfl
                     have hcz104_4 : wc.cell? ⟨gb139, 4, none⟩ = some (.int .i64 x140004_50) := (blk_cell BK139.out 4).trans rfl
                     have hcz104_5 : wc.cell? ⟨gb139, 5, none⟩ = some (.int .i64 x140005_50) := (blk_cell BK139.out 5).trans rfl
                     have hcz104_6 : wc.cell? ⟨gb139, 6, none⟩ = some (.int .i64 x140006_50) := (blk_cell BK139.out 6).trans rfl
                     have hcz104_7 : wc.cell? ⟨gb139, 7, none⟩ = some (.string x140007_50) := (blk_cell BK139.out 7).trans rfl
                     have hfz104_0 := blk_frozen BK139.out 0
                     have hfz104_1 := blk_frozen BK139.out 1
                     have hfz104_2 := blk_frozen BK139.out 2
                     have hfz104_3 := blk_frozen BK139.out 3
                     have hfz104_4 := blk_frozen BK139.out 4
                     have hfz104_5 := blk_frozen BK139.out 5
                     have hfz104_6 := blk_frozen BK139.out 6
                     have hfz104_7 := blk_frozen BK139.out 7
                     go_wp2_with (first | ((with_reducible refine gate_callee (f := 23) rfl ?_); refine goesL_ (some 143) rfl rfl Try.func23 (by kernel_rfl) rfl #[.agg #[.int .i64 (ji30), .int .i64 (rd x8_4 0), .int .i64 x140002_50, .int .i64 x140003_50, .int .i64 x140004_50, .int .i64 x140005_50, .int .i64 x140006_50, .string x140007_50]] rfl (by (try simp only [List.map_toArray, List.map_cons, List.map_nil]); first | done | (simp only [hji30]; rfl) | rfl | (simp only [List.length_drop, List.length_take]; rfl)) ?_; (with_reducible refine (spec_MsgOk.calls kj50 (ji30) (rd x8_4 0) x140002_50 x140003_50 x140004_50 x140005_50 x140006_50 x140007_50 true _ A100.out).mono ?_); rintro e w105 ⟨rfl, hb⟩; refine ⟨_, rfl, ?_⟩; have n0_ := zM (blk_below (g := gb118) (o := .cells #[.int .i64 x119000_50, .int .i64 x119001_50, .int .i64 x119002_50, .int .i64 x119003_50, .int .i64 x119004_50, .int .i64 x119005_50, .int .i64 x119006_50, .string x119007_50] 32 (0, 0)) (by (with_reducible repeat (first | refine bA ?_ _ | refine bB ?_ | refine bC ?_ _)); exact BK118.out) hb); have n1_ := zM (blk_below (g := gb119) (o := .cells #[.int .i64 0, .int .i64 0, .int .i64 0, .int .i64 0, .int .i64 0, .int .i64 0, .int .i64 0, .string (⟨#[]⟩ : ByteArray)] 32 (0, 0)) (by (with_reducible repeat (first | refine bA ?_ _ | refine bB ?_ | refine bC ?_ _)); exact BK119.out) hb); have n2_ := zM (blk_below (g := gb139) (o := .cells #[.int .i64 (ji30), .int .i64 (rd x8_4 0), .int .i64 x140002_50, .int .i64 x140003_50, .int .i64 x140004_50, .int .i64 x140005_50, .int .i64 x140006_50, .string x140007_50] 32 (0, 0)) (by (with_reducible repeat (first | refine bA ?_ _ | refine bB ?_ | refine bC ?_ _)); exact BK139.out) hb); have n3_ := zM (bG (by repeat (first | (with_reducible first | exact HB.out | apply bE | apply bD | apply bF | refine below_set ?_ GE118.out | refine below_set ?_ GE119.out | refine below_set ?_ GE139.out) | exact HB.out)) hb); clear BK118; clear BK119; clear BK139; clear HB; have BK118 := n0_; have BK119 := n1_; have BK139 := n2_; have HB := n3_; clear n0_ n1_ n2_ n3_; (try clear hb); (try clear hk); (try clear hi); have hcz106_0 : w105.cell? ⟨gb139, 0, none⟩ = some (.int .i64 (ji30)) := (blk_cell BK139.out 0).trans rfl; have hcz106_1 : w105.cell? ⟨gb139, 1, none⟩ = some (.int .i64 (rd x8_4 0)) := (blk_cell BK139.out 1).trans rfl; have hcz106_2 : w105.cell? ⟨gb139, 2, none⟩ = some (.int .i64 x140002_50) := (blk_cell BK139.out 2).trans rfl; have hcz106_3 : w105.cell? ⟨gb139, 3, none⟩ = some (.int .i64 x140003_50) := (blk_cell BK139.out 3).trans rfl; have hcz106_4 : w105.cell? ⟨gb139, 4, none⟩ = some (.int .i64 x140004_50) := (blk_cell BK139.out 4).trans rfl; have hcz106_5 : w105.cell? ⟨gb139, 5, none⟩ = some (.int .i64 x140005_50) := (blk_cell BK139.out 5).trans rfl; have hcz106_6 : w105.cell? ⟨gb139, 6, none⟩ = some (.int .i64 x140006_50) := (blk_cell BK139.out 6).trans rfl; have hcz106_7 : w105.cell? ⟨gb139, 7, none⟩ = some (.string x140007_50) := (blk_cell BK139.out 7).trans rfl; have hfz106_0 := blk_frozen BK139.out 0; have hfz106_1 := blk_frozen BK139.out 1; have hfz106_2 := blk_frozen BK139.out 2; have hfz106_3 := blk_frozen BK139.out 3; have hfz106_4 := blk_frozen BK139.out 4; have hfz106_5 := blk_frozen BK139.out 5; have hfz106_6 := blk_frozen BK139.out 6; have hfz106_7 := blk_frozen BK139.out 7; have hnb107 := NB118_119.out; have hnc107 := NB119_118.out; have hcz108_0 : w105.cell? ⟨gb118, 0, none⟩ = some (.int .i64 x119000_50) := (blk_cell BK118.out 0).trans rfl; have hcz108_1 : w105.cell? ⟨gb118, 1, none⟩ = some (.int .i64 x119001_50) := (blk_cell BK118.out 1).trans rfl; have hcz108_2 : w105.cell? ⟨gb118, 2, none⟩ = some (.int .i64 x119002_50) := (blk_cell BK118.out 2).trans rfl; have hcz108_3 : w105.cell? ⟨gb118, 3, none⟩ = some (.int .i64 x119003_50) := (blk_cell BK118.out 3).trans rfl; have hcz108_4 : w105.cell? ⟨gb118, 4, none⟩ = some (.int .i64 x119004_50) := (blk_cell BK118.out 4).trans rfl; have hcz108_5 : w105.cell? ⟨gb118, 5, none⟩ = some (.int .i64 x119005_50) := (blk_cell BK118.out 5).trans rfl; have hcz108_6 : w105.cell? ⟨gb118, 6, none⟩ = some (.int .i64 x119006_50) := (blk_cell BK118.out 6).trans rfl; have hcz108_7 : w105.cell? ⟨gb118, 7, none⟩ = some (.string x119007_50) := (blk_cell BK118.out 7).trans rfl; have hfz108_0 := blk_frozen BK118.out 0; have hfz108_1 := blk_frozen BK118.out 1; have hfz108_2 := blk_frozen BK118.out 2; have hfz108_3 := blk_frozen BK118.out 3; have hfz108_4 := blk_frozen BK118.out 4; have hfz108_5 := blk_frozen BK118.out 5; have hfz108_6 := blk_frozen BK118.out 6; have hfz108_7 := blk_frozen BK118.out 7))
                     refine bodyPost_ret (results_ct rfl _ _ gb118 32 #[.int .i64 (ji30), .int .i64 (rd x8_4 0), .int .i64 x140002_50, .int .i64 x140003_50, .int .i64 x140004_50, .int .i64 x140005_50, .int .i64 x140006_50, .string x140007_50] (0, 0) _ rfl (by (with_reducible repeat (first | refine bA ?_ _ | refine bB ?_ | refine bC ?_ _)); refine bH (cs := #[.int .i64 (ji30), .int .i64 (rd x8_4 0), .int .i64 x140002_50, .int .i64 x140003_50, .int .i64 x140004_50, .int .i64 x140005_50, .int .i64 x140006_50, .string x119007_50]) ?_ 7 _ rfl; (with_reducible repeat (first | refine bA ?_ _ | refine bB ?_ | refine bC ?_ _)); refine bH (cs := #[.int .i64 (ji30), .int .i64 (rd x8_4 0), .int .i64 x140002_50, .int .i64 x140003_50, .int .i64 x140004_50, .int .i64 x140005_50, .int .i64 x119006_50, .string x119007_50]) ?_ 6 _ rfl; (with_reducible repeat (first | refine bA ?_ _ | refine bB ?_ | refine bC ?_ _)); refine bH (cs := #[.int .i64 (ji30), .int .i64 (rd x8_4 0), .int .i64 x140002_50, .int .i64 x140003_50, .int .i64 x140004_50, .int .i64 x119005_50, .int .i64 x119006_50, .string x119007_50]) ?_ 5 _ rfl; (with_reducible repeat (first | refine bA ?_ _ | refine bB ?_ | refine bC ?_ _)); refine bH (cs := #[.int .i64 (ji30), .int .i64 (rd x8_4 0), .int .i64 x140002_50, .int .i64 x140003_50, .int .i64 x119004_50, .int .i64 x119005_50, .int .i64 x119006_50, .string x119007_50]) ?_ 4 _ rfl; (with_reducible repeat (first | refine bA ?_ _ | refine bB ?_ | refine bC ?_ _)); refine bH (cs := #[.int .i64 (ji30), .int .i64 (rd x8_4 0), .int .i64 x140002_50, .int .i64 x119003_50, .int .i64 x119004_50, .int .i64 x119005_50, .int .i64 x119006_50, .string x119007_50]) ?_ 3 _ rfl; (with_reducible repeat (first | refine bA ?_ _ | refine bB ?_ | refine bC ?_ _)); refine bH (cs := #[.int .i64 (ji30), .int .i64 (rd x8_4 0), .int .i64 x119002_50, .int .i64 x119003_50, .int .i64 x119004_50, .int .i64 x119005_50, .int .i64 x119006_50, .string x119007_50]) ?_ 2 _ rfl; (with_reducible repeat (first | refine bA ?_ _ | refine bB ?_ | refine bC ?_ _)); refine bH (cs := #[.int .i64 (ji30), .int .i64 x119001_50, .int .i64 x119002_50, .int .i64 x119003_50, .int .i64 x119004_50, .int .i64 x119005_50, .int .i64 x119006_50, .string x119007_50]) ?_ 1 _ rfl; (with_reducible repeat (first | refine bA ?_ _ | refine bB ?_ | refine bC ?_ _)); refine bH (cs := #[.int .i64 x119000_50, .int .i64 x119001_50, .int .i64 x119002_50, .int .i64 x119003_50, .int .i64 x119004_50, .int .i64 x119005_50, .int .i64 x119006_50, .string x119007_50]) ?_ 0 _ rfl; (with_reducible repeat (first | refine bA ?_ _ | refine bB ?_ | refine bC ?_ _)); exact BK118.out) Try.underlying32 rfl (by kernel_rfl)) rfl ?_
                     exact ⟨by first | rfl | (simp only [← hji11, ← hji30]; first | rfl | (simp [errW_none, errW_some] <;> rfl)) | (simp [*, errW_none, errW_some] <;> rfl), by repeat (first | (with_reducible first | exact HB.out | apply bE | apply bD | apply bF | refine below_set ?_ GE118.out | refine below_set ?_ GE119.out | refine below_set ?_ GE139.out) | exact HB.out)⟩
                    ·replace c101 := Bool.eq_false_iff.mpr c101
                     subst c101
                     have H1 : (some (0, 0, 0, 0, 0, 0, 0, (⟨#[]⟩ : ByteArray), 5)) = some (r1, r2, r3, r4, r5, r6, r7, r8, r9) := by rw [if_neg (show ¬ (false = true) by decide)] at H; exact H
                     clear H
                     have H := H1
                     clear H1
                     simp only [zI, zJ] at H
                     obtain ⟨rfl, rfl, rfl, rfl, rfl, rfl, rfl, rfl, rfl⟩ := H
                     have hnb109 := NB139_118.out
                     have hnc109 := NB118_139.out
                     have hnb110 := NB139_119.out
                     have hnc110 := NB119_139.out
                     have hcz111_0 : wc.cell? ⟨gb139, 0, none⟩ = some (.int .i64 (ji30)) := (blk_cell BK139.out 0).trans rfl
                     have hcz111_1 : wc.cell? ⟨gb139, 1, none⟩ = some (.int .i64 (rd x8_4 0)) := (blk_cell BK139.out 1).trans rfl
                     have hcz111_2 : wc.cell? ⟨gb139, 2, none⟩ = some (.int .i64 x140002_50) := (blk_cell BK139.out 2).trans rfl
                     have hcz111_3 : wc.cell? ⟨gb139, 3, none⟩ = some (.int .i64 x140003_50) := (blk_cell BK139.out 3).trans rfl
                     have hcz111_4 : wc.cell? ⟨gb139, 4, none⟩ = some (.int .i64 x140004_50) := (blk_cell BK139.out 4).trans rfl
                     have hcz111_5 : wc.cell? ⟨gb139, 5, none⟩ = some (.int .i64 x140005_50) := (blk_cell BK139.out 5).trans rfl
                     have hcz111_6 : wc.cell? ⟨gb139, 6, none⟩ = some (.int .i64 x140006_50) := (blk_cell BK139.out 6).trans rfl
                     have hcz111_7 : wc.cell? ⟨gb139, 7, none⟩ = some (.string x140007_50) := (blk_cell BK139.out 7).trans rfl
                     have hfz111_0 := blk_frozen BK139.out 0
                     have hfz111_1 := blk_frozen BK139.out 1
                     have hfz111_2 := blk_frozen BK139.out 2
                     have hfz111_3 := blk_frozen BK139.out 3
                     have hfz111_4 := blk_frozen BK139.out 4
                     have hfz111_5 := blk_frozen BK139.out 5
                     have hfz111_6 := blk_frozen BK139.out 6
                     have hfz111_7 := blk_frozen BK139.out 7
                     go_wp2_with (first | ((with_reducible refine gate_callee (f := 23) rfl ?_); refine goesL_ (some 143) rfl rfl Try.func23 (by kernel_rfl) rfl #[.agg #[.int .i64 (ji30), .int .i64 (rd x8_4 0), .int .i64 x140002_50, .int .i64 x140003_50, .int .i64 x140004_50, .int .i64 x140005_50, .int .i64 x140006_50, .string x140007_50]] rfl (by (try simp only [List.map_toArray, List.map_cons, List.map_nil]); first | done | (simp only [hji30]; rfl) | rfl | (simp only [List.length_drop, List.length_take]; rfl)) ?_; (with_reducible refine (spec_MsgOk.calls kj50 (ji30) (rd x8_4 0) x140002_50 x140003_50 x140004_50 x140005_50 x140006_50 x140007_50 false _ A100.out).mono ?_); rintro e w112 ⟨rfl, hb⟩; refine ⟨_, rfl, ?_⟩; have n0_ := zM (blk_below (g := gb118) (o := .cells #[.int .i64 x119000_50, .int .i64 x119001_50, .int .i64 x119002_50, .int .i64 x119003_50, .int .i64 x119004_50, .int .i64 x119005_50, .int .i64 x119006_50, .string x119007_50] 32 (0, 0)) (by (with_reducible repeat (first | refine bA ?_ _ | refine bB ?_ | refine bC ?_ _)); exact BK118.out) hb); have n1_ := zM (blk_below (g := gb119) (o := .cells #[.int .i64 0, .int .i64 0, .int .i64 0, .int .i64 0, .int .i64 0, .int .i64 0, .int .i64 0, .string (⟨#[]⟩ : ByteArray)] 32 (0, 0)) (by (with_reducible repeat (first | refine bA ?_ _ | refine bB ?_ | refine bC ?_ _)); exact BK119.out) hb); have n2_ := zM (blk_below (g := gb139) (o := .cells #[.int .i64 (ji30), .int .i64 (rd x8_4 0), .int .i64 x140002_50, .int .i64 x140003_50, .int .i64 x140004_50, .int .i64 x140005_50, .int .i64 x140006_50, .string x140007_50] 32 (0, 0)) (by (with_reducible repeat (first | refine bA ?_ _ | refine bB ?_ | refine bC ?_ _)); exact BK139.out) hb); have n3_ := zM (bG (by repeat (first | (with_reducible first | exact HB.out | apply bE | apply bD | apply bF | refine below_set ?_ GE118.out | refine below_set ?_ GE119.out | refine below_set ?_ GE139.out) | exact HB.out)) hb); clear BK118; clear BK119; clear BK139; clear HB; have BK118 := n0_; have BK119 := n1_; have BK139 := n2_; have HB := n3_; clear n0_ n1_ n2_ n3_; (try clear hb); (try clear hk); (try clear hi); have hnb113 := NB119_118.out; have hnc113 := NB118_119.out; have hcz114_0 : w112.cell? ⟨gb119, 0, none⟩ = some (.int .i64 0) := (blk_cell BK119.out 0).trans rfl; have hcz114_1 : w112.cell? ⟨gb119, 1, none⟩ = some (.int .i64 0) := (blk_cell BK119.out 1).trans rfl; have hcz114_2 : w112.cell? ⟨gb119, 2, none⟩ = some (.int .i64 0) := (blk_cell BK119.out 2).trans rfl; have hcz114_3 : w112.cell? ⟨gb119, 3, none⟩ = some (.int .i64 0) := (blk_cell BK119.out 3).trans rfl; have hcz114_4 : w112.cell? ⟨gb119, 4, none⟩ = some (.int .i64 0) := (blk_cell BK119.out 4).trans rfl; have hcz114_5 : w112.cell? ⟨gb119, 5, none⟩ = some (.int .i64 0) := (blk_cell BK119.out 5).trans rfl; have hcz114_6 : w112.cell? ⟨gb119, 6, none⟩ = some (.int .i64 0) := (blk_cell BK119.out 6).trans rfl; have hcz114_7 : w112.cell? ⟨gb119, 7, none⟩ = some (.string (⟨#[]⟩ : ByteArray)) := (blk_cell BK119.out 7).trans rfl; have hfz114_0 := blk_frozen BK119.out 0; have hfz114_1 := blk_frozen BK119.out 1; have hfz114_2 := blk_frozen BK119.out 2; have hfz114_3 := blk_frozen BK119.out 3; have hfz114_4 := blk_frozen BK119.out 4; have hfz114_5 := blk_frozen BK119.out 5; have hfz114_6 := blk_frozen BK119.out 6; have hfz114_7 := blk_frozen BK119.out 7; have hcz115_0 : w112.cell? ⟨gb118, 0, none⟩ = some (.int .i64 x119000_50) := (blk_cell BK118.out 0).trans rfl; have hcz115_1 : w112.cell? ⟨gb118, 1, none⟩ = some (.int .i64 x119001_50) := (blk_cell BK118.out 1).trans rfl; have hcz115_2 : w112.cell? ⟨gb118, 2, none⟩ = some (.int .i64 x119002_50) := (blk_cell BK118.out 2).trans rfl; have hcz115_3 : w112.cell? ⟨gb118, 3, none⟩ = some (.int .i64 x119003_50) := (blk_cell BK118.out 3).trans rfl; have hcz115_4 : w112.cell? ⟨gb118, 4, none⟩ = some (.int .i64 x119004_50) := (blk_cell BK118.out 4).trans rfl; have hcz115_5 : w112.cell? ⟨gb118, 5, none⟩ = some (.int .i64 x119005_50) := (blk_cell BK118.out 5).trans rfl; have hcz115_6 : w112.cell? ⟨gb118, 6, none⟩ = some (.int .i64 x119006_50) := (blk_cell BK118.out 6).trans rfl; have hcz115_7 : w112.cell? ⟨gb118, 7, none⟩ = some (.string x119007_50) := (blk_cell BK118.out 7).trans rfl; have hfz115_0 := blk_frozen BK118.out 0; have hfz115_1 := blk_frozen BK118.out 1; have hfz115_2 := blk_frozen BK118.out 2; have hfz115_3 := blk_frozen BK118.out 3; have hfz115_4 := blk_frozen BK118.out 4; have hfz115_5 := blk_frozen BK118.out 5; have hfz115_6 := blk_frozen BK118.out 6; have hfz115_7 := blk_frozen BK118.out 7))
                     refine bodyPost_ret (results_ct rfl _ _ gb118 32 #[.int .i64 0, .int .i64 0, .int .i64 0, .int .i64 0, .int .i64 0, .int .i64 0, .int .i64 0, .string (⟨#[]⟩ : ByteArray)] (0, 0) _ rfl (by (with_reducible repeat (first | refine bA ?_ _ | refine bB ?_ | refine bC ?_ _)); refine bH (cs := #[.int .i64 0, .int .i64 0, .int .i64 0, .int .i64 0, .int .i64 0, .int .i64 0, .int .i64 0, .string x119007_50]) ?_ 7 _ rfl; (with_reducible repeat (first | refine bA ?_ _ | refine bB ?_ | refine bC ?_ _)); refine bH (cs := #[.int .i64 0, .int .i64 0, .int .i64 0, .int .i64 0, .int .i64 0, .int .i64 0, .int .i64 x119006_50, .string x119007_50]) ?_ 6 _ rfl; (with_reducible repeat (first | refine bA ?_ _ | refine bB ?_ | refine bC ?_ _)); refine bH (cs := #[.int .i64 0, .int .i64 0, .int .i64 0, .int .i64 0, .int .i64 0, .int .i64 x119005_50, .int .i64 x119006_50, .string x119007_50]) ?_ 5 _ rfl; (with_reducible repeat (first | refine bA ?_ _ | refine bB ?_ | refine bC ?_ _)); refine bH (cs := #[.int .i64 0, .int .i64 0, .int .i64 0, .int .i64 0, .int .i64 x119004_50, .int .i64 x119005_50, .int .i64 x119006_50, .string x119007_50]) ?_ 4 _ rfl; (with_reducible repeat (first | refine bA ?_ _ | refine bB ?_ | refine bC ?_ _)); refine bH (cs := #[.int .i64 0, .int .i64 0, .int .i64 0, .int .i64 x119003_50, .int .i64 x119004_50, .int .i64 x119005_50, .int .i64 x119006_50, .string x119007_50]) ?_ 3 _ rfl; (with_reducible repeat (first | refine bA ?_ _ | refine bB ?_ | refine bC ?_ _)); refine bH (cs := #[.int .i64 0, .int .i64 0, .int .i64 x119002_50, .int .i64 x119003_50, .int .i64 x119004_50, .int .i64 x119005_50, .int .i64 x119006_50, .string x119007_50]) ?_ 2 _ rfl; (with_reducible repeat (first | refine bA ?_ _ | refine bB ?_ | refine bC ?_ _)); refine bH (cs := #[.int .i64 0, .int .i64 x119001_50, .int .i64 x119002_50, .int .i64 x119003_50, .int .i64 x119004_50, .int .i64 x119005_50, .int .i64 x119006_50, .string x119007_50]) ?_ 1 _ rfl; (with_reducible repeat (first | refine bA ?_ _ | refine bB ?_ | refine bC ?_ _)); refine bH (cs := #[.int .i64 x119000_50, .int .i64 x119001_50, .int .i64 x119002_50, .int .i64 x119003_50, .int .i64 x119004_50, .int .i64 x119005_50, .int .i64 x119006_50, .string x119007_50]) ?_ 0 _ rfl; (with_reducible repeat (first | refine bA ?_ _ | refine bB ?_ | refine bC ?_ _)); exact BK118.out) Try.underlying32 rfl (by kernel_rfl)) rfl ?_
                     exact ⟨by first | rfl | (simp only [← hji11, ← hji30]; first | rfl | (simp [errW_none, errW_some] <;> rfl)) | (simp [*, errW_none, errW_some] <;> rfl), by repeat (first | (with_reducible first | exact HB.out | apply bE | apply bD | apply bF | refine below_set ?_ GE118.out | refine below_set ?_ GE119.out | refine below_set ?_ GE139.out) | exact HB.out)⟩
                ·rw [if_neg c50] at H
                 exact absurd H (by simp)
            ·rw [if_neg c32] at H
             exact absurd H (by simp)
           ·rw [if_neg c31] at H
            exact absurd H (by simp)
        ·rw [if_neg c23] at H
         exact absurd H (by simp)
     ·rw [if_neg c15] at H
      exact absurd H (by simp)
    ·rw [if_neg c13] at H
     exact absurd H (by simp)
   ·rw [if_neg c12] at H
    exact absurd H (by simp)

end Go.Proofs.Ytpnfbekbkeiahaa.XFnExactUnpack
