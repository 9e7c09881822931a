-- Written by a program of this claim's session (wip/xprint.py), out of the translation.
import Derived.Test.YtpnfbekbkeiahaaTESplitMsgsXFnExactSplitMsgsx0
import Derived.Test.YtpnfbekbkeiahaaTESplitMsgsXFnExactSplitMsgsx4
import Derived.Test.YtpnfbekbkeiahaaTESplitMsgsXFnExactSplitMsgsx5
import Derived.Test.YtpnfbekbkeiahaaTESplitMsgsXFnExactSplitMsgsx6
namespace Go.Proofs.Ytpnfbekbkeiahaa.XFnExactSplitMsgs
open Go.RowKit Go.Proofs.YtpnfbekbkeiahaaW.PrintWords Go.Proofs.YtpnfbekbkeiahaaW.PrintLast Go.Proofs.YtpnfbekbkeiahaaW.PrintMore
open Go.Proofs.YtpnfbekbkeiahaaW.PrintWords renaming blk_drewN → bA, blk_drew → bB, blk_alloc → bC, pw_below_drewN → bD, below_alloc → bE, below_drew1 → bF, Aside0.mk → zM, below_step → bG, blk_put → bH
open List renaming setIfInBounds_toArray → zS, set_cons_zero → z0, set_cons_succ → z1
attribute [local go_sem] max2_int min2_int max_two min_two max_three min_three max_four min_four
set_option linter.unusedVariables false
set_option linter.unusedSimpArgs false
set_option maxHeartbeats 8000000
set_option maxRecDepth 100000

/-! ### spec_Unpack: function 17 -/
mutual
def spec_Unpack.j0 : Nat → List Int → Int → Int → Int → Int → Int → Int → Int → ByteArray → Option (Int × Int × Int × Int × Int × Int × Int × ByteArray × Int)
 | 0, _, _, _, _, _, _, _, _, _ => none
 | k + 1, x0, x146000, x146001, x146002, x146003, x146004, x146005, x146006, x146007 => if 0 ≤ (wrap64 ((x0.length : Int) - 1)) then (if (wrap64 ((x0.length : Int) - 1)) ≤ (x0.length : Int) then ((spec_Check8.f k (x0.take ((wrap64 ((x0.length : Int) - 1)) : Int).toNat)).bind fun t147 => (if (wrap64 ((x0.length : Int) - 1)) < (x0.length : Int) then (if t147 = (wrap64 (rd x0 (wrap64 ((x0.length : Int) - 1)))) then (spec_Unpack.j1 k (x0.take ((wrap64 ((x0.length : Int) - 1)) : Int).toNat) x146000 x146001 x146002 x146003 x146004 x146005 x146006 x146007) else (some (x146000, x146001, x146002, x146003, x146004, x146005, x146006, x146007, 2))) else (none))) else (none)) else (none)
def spec_Unpack.j1 : Nat → List Int → Int → Int → Int → Int → Int → Int → Int → ByteArray → Option (Int × Int × Int × Int × Int × Int × Int × ByteArray × Int)
 | 0, _, _, _, _, _, _, _, _, _ => none
 | k + 1, x5, x146000, x146001, x146002, x146003, x146004, x146005, x146006, x146007 => if 0 < (x5.length : Int) then ((spec_l1In.f (wrap64 (rd x5 0)) 1 3).bind fun t150 => (if t150 = true then (spec_Unpack.j2 k x5 (wrap64 (rd x5 0)) x146000 x146001 x146002 x146003 x146004 x146005 x146006 x146007) else (some (x146000, x146001, x146002, x146003, x146004, x146005, x146006, x146007, 3)))) else (none)
def spec_Unpack.j2 : Nat → List Int → Int → Int → Int → Int → Int → Int → Int → Int → ByteArray → Option (Int × Int × Int × Int × Int × Int × Int × ByteArray × Int)
 | 0, _, _, _, _, _, _, _, _, _, _ => none
 | k + 1, x5, x6, x146000, x146001, x146002, x146003, x146004, x146005, x146006, x146007 => (some (([0, 3, 5, 3] : List Int) : List Int)).bind fun y151 => (if 0 ≤ x6 then (if x6 < (y151.length : Int) then (spec_Unpack.l0 k x5 x6 (rd y151 x6) (([] : List Int)) 1 0 x146000 x146001 x146002 x146003 x146004 x146005 x146006 x146007) else (none)) else (none))
def spec_Unpack.l0 : Nat → List Int → Int → Int → List Int → Int → Int → Int → Int → Int → Int → Int → Int → Int → ByteArray → Option (Int × Int × Int × Int × Int × Int × Int × ByteArray × Int)
 | 0, _, _, _, _, _, _, _, _, _, _, _, _, _, _ => none
 | k + 1, x5, x6, x7, x8, x9, x10, x146000, x146001, x146002, x146003, x146004, x146005, x146006, x146007 => if x10 < x7 then ((spec_GetNum.f k x5 x9).bind fun bt158 => (if bt158.2.2 = true then (if bt158.1 > 4000000000000 then (some (x146000, x146001, x146002, x146003, x146004, x146005, x146006, x146007, 4)) else (if x8.length < 17592186044416 then (spec_Unpack.l0 k x5 x6 x7 (x8 ++ [bt158.1]) bt158.2.1 (wrap64 (x10 + 1)) x146000 x146001 x146002 x146003 x146004 x146005 x146006 x146007) else (none))) else (some (x146000, x146001, x146002, x146003, x146004, x146005, x146006, x146007, 4)))) else (if 0 < (x8.length : Int) then (if x6 = 3 then (if 1 < (x8.length : Int) then (if 2 < (x8.length : Int) then (if (wrap64 ((x5.length : Int) - x9)) < (rd x8 2) then (some (x146000, x146001, x146002, x146003, x146004, x146005, x146006, x146007, 4)) else (if 0 ≤ x9 then (if x9 ≤ (wrap64 (x9 + (rd x8 2))) then (if (wrap64 (x9 + (rd x8 2))) ≤ (x5.length : Int) then (spec_Unpack.j4 k x5 (wrap64 (x9 + (rd x8 2))) x146000 x146001 x146002 x146003 x146004 x146005 x146006 x146007 x6 (rd x8 0) 0 0 0 0 (rd x8 1) (strOfNums ((x5.take ((wrap64 (x9 + (rd x8 2))) : Int).toNat).drop (x9 : Int).toNat))) else (none)) else (none)) else (none))) else (none)) else (none)) else (if x6 = 2 then (if 1 < (x8.length : Int) then (if 2 < (x8.length : Int) then (if 3 < (x8.length : Int) then ((spec_l4End.f (rd x8 3)).bind fun t174 => (if 4 < (x8.length : Int) then ((spec_l4End.f (rd x8 4)).bind fun t176 => (spec_Unpack.j4 k x5 x9 x146000 x146001 x146002 x146003 x146004 x146005 x146006 x146007 x6 (rd x8 0) (rd x8 1) (rd x8 2) t174 t176 0 (⟨#[]⟩ : ByteArray))) else (none))) else (none)) else (none)) else (none)) else (if 1 < (x8.length : Int) then (if 2 < (x8.length : Int) then (spec_Unpack.j4 k x5 x9 x146000 x146001 x146002 x146003 x146004 x146005 x146006 x146007 x6 (rd x8 0) (rd x8 1) (rd x8 2) 0 0 0 (⟨#[]⟩ : ByteArray)) else (none)) else (none)))) else (none))
def spec_Unpack.j4 : Nat → List Int → Int → Int → Int → Int → Int → Int → Int → Int → ByteArray → Int → Int → Int → Int → Int → Int → Int → ByteArray → Option (Int × Int × Int × Int × Int × Int × Int × ByteArray × Int)
 | 0, _, _, _, _, _, _, _, _, _, _, _, _, _, _, _, _, _, _ => none
 | k + 1, x5, x9, x146000, x146001, x146002, x146003, x146004, x146005, x146006, x146007, x166000, x166001, x166002, x166003, x166004, x166005, x166006, x166007 => if x9 < (x5.length : Int) then (some (x146000, x146001, x146002, x146003, x146004, x146005, x146006, x146007, 6)) else ((spec_MsgOk.f k x166000 x166001 x166002 x166003 x166004 x166005 x166006 x166007).bind fun t179 => (if t179 = true then (some (x166000, x166001, x166002, x166003, x166004, x166005, x166006, x166007, 0)) else (some (x146000, x146001, x146002, x146003, x146004, x146005, x146006, x146007, 5))))
end
def spec_Unpack.f (k : Nat) (l0 : List Int) : Option (Int × Int × Int × Int × Int × Int × Int × ByteArray × Int) := if (l0.length : Int) < 2 then (some (0, 0, 0, 0, 0, 0, 0, (⟨#[]⟩ : ByteArray), 1)) else (spec_Unpack.j0 k l0 0 0 0 0 0 0 0 (⟨#[]⟩ : ByteArray))
theorem spec_Unpack.mono_l : ∀ k, (∀ y0 y1 y2 y3 y4 y5 y6 y7 y8, LeO (spec_Unpack.j0 k y0 y1 y2 y3 y4 y5 y6 y7 y8) (spec_Unpack.j0 (k + 1) y0 y1 y2 y3 y4 y5 y6 y7 y8)) ∧ (∀ y0 y1 y2 y3 y4 y5 y6 y7 y8, LeO (spec_Unpack.j1 k y0 y1 y2 y3 y4 y5 y6 y7 y8) (spec_Unpack.j1 (k + 1) y0 y1 y2 y3 y4 y5 y6 y7 y8)) ∧ (∀ y0 y1 y2 y3 y4 y5 y6 y7 y8 y9, LeO (spec_Unpack.j2 k y0 y1 y2 y3 y4 y5 y6 y7 y8 y9) (spec_Unpack.j2 (k + 1) y0 y1 y2 y3 y4 y5 y6 y7 y8 y9)) ∧ (∀ y0 y1 y2 y3 y4 y5 y6 y7 y8 y9 y10 y11 y12 y13, LeO (spec_Unpack.l0 k y0 y1 y2 y3 y4 y5 y6 y7 y8 y9 y10 y11 y12 y13) (spec_Unpack.l0 (k + 1) y0 y1 y2 y3 y4 y5 y6 y7 y8 y9 y10 y11 y12 y13)) ∧ (∀ y0 y1 y2 y3 y4 y5 y6 y7 y8 y9 y10 y11 y12 y13 y14 y15 y16 y17, LeO (spec_Unpack.j4 k y0 y1 y2 y3 y4 y5 y6 y7 y8 y9 y10 y11 y12 y13 y14 y15 y16 y17) (spec_Unpack.j4 (k + 1) y0 y1 y2 y3 y4 y5 y6 y7 y8 y9 y10 y11 y12 y13 y14 y15 y16 y17))
 | 0 => ⟨fun _ _ _ _ _ _ _ _ _ r h => by simp [spec_Unpack.j0] at h, fun _ _ _ _ _ _ _ _ _ r h => by simp [spec_Unpack.j1] at h, fun _ _ _ _ _ _ _ _ _ _ r h => by simp [spec_Unpack.j2] at h, fun _ _ _ _ _ _ _ _ _ _ _ _ _ _ r h => by simp [spec_Unpack.l0] at h, fun _ _ _ _ _ _ _ _ _ _ _ _ _ _ _ _ _ _ r h => by simp [spec_Unpack.j4] at h⟩
 | k + 1 => by
  obtain ⟨ih0, ih1, ih2, ih3, ih4⟩ := spec_Unpack.mono_l k
  refine ⟨?_, ?_, ?_, ?_, ?_⟩
  ·intro y0 y1 y2 y3 y4 y5 y6 y7 y8
   unfold spec_Unpack.j0
   repeat' first
   | (with_reducible exact ih0 _ _ _ _ _ _ _ _ _)
   | (with_reducible exact ih1 _ _ _ _ _ _ _ _ _)
   | (with_reducible exact ih2 _ _ _ _ _ _ _ _ _ _)
   | (with_reducible exact ih3 _ _ _ _ _ _ _ _ _ _ _ _ _ _)
   | (with_reducible exact ih4 _ _ _ _ _ _ _ _ _ _ _ _ _ _ _ _ _ _)
   | (with_reducible exact spec_Check8.mono _ _)
   | (with_reducible exact spec_GetNum.mono _ _ _)
   | (with_reducible exact spec_MsgOk.mono _ _ _ _ _ _ _ _ _)
   | (with_reducible exact LeO.refl _)
   | (with_reducible exact LeO.none _)
   | (with_reducible refine LeO.ite ?_ ?_)
   | (with_reducible refine LeO.bind ?_ (fun _ => ?_))
   | exact ih0 _ _ _ _ _ _ _ _ _
   | exact ih1 _ _ _ _ _ _ _ _ _
   | exact ih2 _ _ _ _ _ _ _ _ _ _
   | exact ih3 _ _ _ _ _ _ _ _ _ _ _ _ _ _
   | exact ih4 _ _ _ _ _ _ _ _ _ _ _ _ _ _ _ _ _ _
   | exact spec_Check8.mono _ _
   | exact spec_GetNum.mono _ _ _
   | exact spec_MsgOk.mono _ _ _ _ _ _ _ _ _
   | exact LeO.none _
   | refine LeO.ite ?_ ?_
   | refine LeO.bind ?_ (fun _ => ?_)
  ·intro y0 y1 y2 y3 y4 y5 y6 y7 y8
   unfold spec_Unpack.j1
   repeat' first
   | (with_reducible exact ih0 _ _ _ _ _ _ _ _ _)
   | (with_reducible exact ih1 _ _ _ _ _ _ _ _ _)
   | (with_reducible exact ih2 _ _ _ _ _ _ _ _ _ _)
   | (with_reducible exact ih3 _ _ _ _ _ _ _ _ _ _ _ _ _ _)
   | (with_reducible exact ih4 _ _ _ _ _ _ _ _ _ _ _ _ _ _ _ _ _ _)
   | (with_reducible exact spec_Check8.mono _ _)
   | (with_reducible exact spec_GetNum.mono _ _ _)
   | (with_reducible exact spec_MsgOk.mono _ _ _ _ _ _ _ _ _)
   | (with_reducible exact LeO.refl _)
   | (with_reducible exact LeO.none _)
   | (with_reducible refine LeO.ite ?_ ?_)
   | (with_reducible refine LeO.bind ?_ (fun _ => ?_))
   | exact ih0 _ _ _ _ _ _ _ _ _
   | exact ih1 _ _ _ _ _ _ _ _ _
   | exact ih2 _ _ _ _ _ _ _ _ _ _
   | exact ih3 _ _ _ _ _ _ _ _ _ _ _ _ _ _
   | exact ih4 _ _ _ _ _ _ _ _ _ _ _ _ _ _ _ _ _ _
   | exact spec_Check8.mono _ _
   | exact spec_GetNum.mono _ _ _
   | exact spec_MsgOk.mono _ _ _ _ _ _ _ _ _
   | exact LeO.none _
   | refine LeO.ite ?_ ?_
   | refine LeO.bind ?_ (fun _ => ?_)
  ·intro y0 y1 y2 y3 y4 y5 y6 y7 y8 y9
   unfold spec_Unpack.j2
   repeat' first
   | (with_reducible exact ih0 _ _ _ _ _ _ _ _ _)
   | (with_reducible exact ih1 _ _ _ _ _ _ _ _ _)
   | (with_reducible exact ih2 _ _ _ _ _ _ _ _ _ _)
   | (with_reducible exact ih3 _ _ _ _ _ _ _ _ _ _ _ _ _ _)
   | (with_reducible exact ih4 _ _ _ _ _ _ _ _ _ _ _ _ _ _ _ _ _ _)
   | (with_reducible exact spec_Check8.mono _ _)
   | (with_reducible exact spec_GetNum.mono _ _ _)
   | (with_reducible exact spec_MsgOk.mono _ _ _ _ _ _ _ _ _)
   | (with_reducible exact LeO.refl _)
   | (with_reducible exact LeO.none _)
   | (with_reducible refine LeO.ite ?_ ?_)
   | (with_reducible refine LeO.bind ?_ (fun _ => ?_))
   | exact ih0 _ _ _ _ _ _ _ _ _
   | exact ih1 _ _ _ _ _ _ _ _ _
   | exact ih2 _ _ _ _ _ _ _ _ _ _
   | exact ih3 _ _ _ _ _ _ _ _ _ _ _ _ _ _
   | exact ih4 _ _ _ _ _ _ _ _ _ _ _ _ _ _ _ _ _ _
   | exact spec_Check8.mono _ _
   | exact spec_GetNum.mono _ _ _
   | exact spec_MsgOk.mono _ _ _ _ _ _ _ _ _
   | exact LeO.none _
   | refine LeO.ite ?_ ?_
   | refine LeO.bind ?_ (fun _ => ?_)
  ·intro y0 y1 y2 y3 y4 y5 y6 y7 y8 y9 y10 y11 y12 y13
   unfold spec_Unpack.l0
   repeat' first
   | (with_reducible exact ih0 _ _ _ _ _ _ _ _ _)
   | (with_reducible exact ih1 _ _ _ _ _ _ _ _ _)
   | (with_reducible exact ih2 _ _ _ _ _ _ _ _ _ _)
   | (with_reducible exact ih3 _ _ _ _ _ _ _ _ _ _ _ _ _ _)
   | (with_reducible exact ih4 _ _ _ _ _ _ _ _ _ _ _ _ _ _ _ _ _ _)
   | (with_reducible exact spec_Check8.mono _ _)
   | (with_reducible exact spec_GetNum.mono _ _ _)
   | (with_reducible exact spec_MsgOk.mono _ _ _ _ _ _ _ _ _)
   | (with_reducible exact LeO.refl _)
   | (with_reducible exact LeO.none _)
   | (with_reducible refine LeO.ite ?_ ?_)
   | (with_reducible refine LeO.bind ?_ (fun _ => ?_))
   | exact ih0 _ _ _ _ _ _ _ _ _
   | exact ih1 _ _ _ _ _ _ _ _ _
   | exact ih2 _ _ _ _ _ _ _ _ _ _
   | exact ih3 _ _ _ _ _ _ _ _ _ _ _ _ _ _
   | exact ih4 _ _ _ _ _ _ _ _ _ _ _ _ _ _ _ _ _ _
   | exact spec_Check8.mono _ _
   | exact spec_GetNum.mono _ _ _
   | exact spec_MsgOk.mono _ _ _ _ _ _ _ _ _
   | exact LeO.none _
   | refine LeO.ite ?_ ?_
   | refine LeO.bind ?_ (fun _ => ?_)
  ·intro y0 y1 y2 y3 y4 y5 y6 y7 y8 y9 y10 y11 y12 y13 y14 y15 y16 y17
   unfold spec_Unpack.j4
   repeat' first
   | (with_reducible exact ih0 _ _ _ _ _ _ _ _ _)
   | (with_reducible exact ih1 _ _ _ _ _ _ _ _ _)
   | (with_reducible exact ih2 _ _ _ _ _ _ _ _ _ _)
   | (with_reducible exact ih3 _ _ _ _ _ _ _ _ _ _ _ _ _ _)
   | (with_reducible exact ih4 _ _ _ _ _ _ _ _ _ _ _ _ _ _ _ _ _ _)
   | (with_reducible exact spec_Check8.mono _ _)
   | (with_reducible exact spec_GetNum.mono _ _ _)
   | (with_reducible exact spec_MsgOk.mono _ _ _ _ _ _ _ _ _)
   | (with_reducible exact LeO.refl _)
   | (with_reducible exact LeO.none _)
   | (with_reducible refine LeO.ite ?_ ?_)
   | (with_reducible refine LeO.bind ?_ (fun _ => ?_))
   | exact ih0 _ _ _ _ _ _ _ _ _
   | exact ih1 _ _ _ _ _ _ _ _ _
   | exact ih2 _ _ _ _ _ _ _ _ _ _
   | exact ih3 _ _ _ _ _ _ _ _ _ _ _ _ _ _
   | exact ih4 _ _ _ _ _ _ _ _ _ _ _ _ _ _ _ _ _ _
   | exact spec_Check8.mono _ _
   | exact spec_GetNum.mono _ _ _
   | exact spec_MsgOk.mono _ _ _ _ _ _ _ _ _
   | exact LeO.none _
   | refine LeO.ite ?_ ?_
   | refine LeO.bind ?_ (fun _ => ?_)
theorem spec_Unpack.mono : ∀ a0 k, LeO (spec_Unpack.f k a0) (spec_Unpack.f (k + 1) a0) := by
 intro a0 k
 obtain ⟨ih0, ih1, ih2, ih3, ih4⟩ := spec_Unpack.mono_l k
 unfold spec_Unpack.f
 repeat' first
   | (with_reducible exact ih0 _ _ _ _ _ _ _ _ _)
   | (with_reducible exact ih1 _ _ _ _ _ _ _ _ _)
   | (with_reducible exact ih2 _ _ _ _ _ _ _ _ _ _)
   | (with_reducible exact ih3 _ _ _ _ _ _ _ _ _ _ _ _ _ _)
   | (with_reducible exact ih4 _ _ _ _ _ _ _ _ _ _ _ _ _ _ _ _ _ _)
   | (with_reducible exact spec_Check8.mono _ _)
   | (with_reducible exact spec_GetNum.mono _ _ _)
   | (with_reducible exact spec_MsgOk.mono _ _ _ _ _ _ _ _ _)
   | (with_reducible exact LeO.refl _)
   | (with_reducible exact LeO.none _)
   | (with_reducible refine LeO.ite ?_ ?_)
   | (with_reducible refine LeO.bind ?_ (fun _ => ?_))
   | exact ih0 _ _ _ _ _ _ _ _ _
   | exact ih1 _ _ _ _ _ _ _ _ _
   | exact ih2 _ _ _ _ _ _ _ _ _ _
   | exact ih3 _ _ _ _ _ _ _ _ _ _ _ _ _ _
   | exact ih4 _ _ _ _ _ _ _ _ _ _ _ _ _ _ _ _ _ _
   | exact spec_Check8.mono _ _
   | exact spec_GetNum.mono _ _ _
   | exact spec_MsgOk.mono _ _ _ _ _ _ _ _ _
   | exact LeO.none _
   | refine LeO.ite ?_ ?_
   | refine LeO.bind ?_ (fun _ => ?_)
def spec_Unpack.T5 : Bool × List (List Nat × List Nat) := (true, [([], []), ([0], [0]), ([], []), ([], []), ([3], [3]), ([4], [4]), ([2, 5], [2, 5]), ([6], [6]), ([7], [7]), ([1, 8], [1, 8])])
def spec_Unpack.B5 : List Nat := [0, 1, 0, 0, 8, 24, 60, 124, 252, 511]
theorem spec_Unpack.tab5 : rtab .any (opsOf Try.f17 5) = spec_Unpack.T5 := by kernel_rfl
theorem spec_Unpack.bits5 : waitsOk spec_Unpack.T5.2 spec_Unpack.B5 = true := by kernel_rfl
def spec_Unpack.T34 : Bool × List (List Nat × List Nat) := (true, [([], []), ([0], [0]), ([1], [1]), ([2], [2]), ([], []), ([4], [4]), ([5], [5]), ([6, 3], [6]), ([3, 7], [3, 7]), ([0, 1, 2, 3, 4, 5, 6, 7, 8], []), ([9, 8, 7, 0, 1, 2, 3, 4, 5, 6, 7, 8], [8, 9])])
def spec_Unpack.B34 : List Nat := [0, 1, 3, 7, 0, 16, 48, 127, 255, 511, 1023]
theorem spec_Unpack.tab34 : rtab .any (opsOf Try.f17 34) = spec_Unpack.T34 := by kernel_rfl
theorem spec_Unpack.bits34 : waitsOk spec_Unpack.T34.2 spec_Unpack.B34 = true := by kernel_rfl
theorem spec_Unpack.calls (k : Nat) (A0 : Option Addr) (c0 : Nat) (l0 : List Int) (r1 : Int) (r2 : Int) (r3 : Int) (r4 : Int) (r5 : Int) (r6 : Int) (r7 : Int) (r8 : ByteArray) (r9 : Int) (w : World) (hr0 : Kd.C (Kd.int .u8) w A0 l0.length l0) (hc0 : l0.length ≤ c0) (h : spec_Unpack.f k l0 = some (r1, r2, r3, r4, r5, r6, r7, r8, r9)) :
  Calls Try.prog 17 #[.slice A0 l0.length c0] w fun e w' => e = .returned (.tuple #[.agg #[.int .i64 r1, .int .i64 r2, .int .i64 r3, .int .i64 r4, .int .i64 r5, .int .i64 r6, .int .i64 r7, .string r8], .int .i64 r9]) ∧ Below w.heap.size w w' := by
 have hu32 := Try.underlying32
 have hu30 := Try.underlying30
 have HR0 := zM hr0
 have HC0 := zM hc0
 clear hr0 hc0
 have HB := zM (Below.refl w.heap.size w)
 have H : (if (l0.length : Int) < 2 then (some (0, 0, 0, 0, 0, 0, 0, (⟨#[]⟩ : ByteArray), 1)) else (spec_Unpack.j0 k l0 0 0 0 0 0 0 0 (⟨#[]⟩ : ByteArray))) = some (r1, r2, r3, r4, r5, r6, r7, r8, r9) := h
 clear h
 have HC2 := zM H
 clear H
 go_enter Try.func17, Try.ntmps17
 go_upto_if 18 with (first | ((with_reducible refine gate_dst (N := 2) rfl ?_); refine box_event ?hg (N := 2) ?hd (cs := #[.int .i64 0, .int .i64 0, .int .i64 0, .int .i64 0, .int .i64 0, .int .i64 0, .int .i64 0, .string (⟨#[]⟩ : ByteArray)]) (t := 32) ?hr ?_; (case hd => rfl); (case hg => rfl); (case hr => first | (go_simp; done) | (go_simp; rfl)); intro gb144 hg w3 hbox hb; have n0_ := zM (bG (by repeat (first | (with_reducible first | exact HB.out | apply bE | apply bD | apply bF) | exact HB.out)) hb); have n1_ := zM (hbox); have n2_ := zM ((by rw [hg]; exact (below_size (by repeat (first | (with_reducible first | exact HB.out | apply bE | apply bD | apply bF) | exact HB.out))) : w.heap.size ≤ gb144)); have n3_ := zM ((by rw [hg]; exact (below_size (by repeat (first | (with_reducible first | exact HB.out | apply bE | apply bD | apply bF) | exact HB.out))) : w.heap.size ≤ gb144)); clear HB; have HB := n0_; have BK144 := n1_; have GW144 := n2_; have GE144 := n3_; clear n0_ n1_ n2_ n3_; clear hb hbox hg) | ((with_reducible refine gate_dst (N := 4) rfl ?_); refine box_event ?hg (N := 4) ?hd (cs := #[.int .i64 0, .int .i64 0, .int .i64 0, .int .i64 0, .int .i64 0, .int .i64 0, .int .i64 0, .string (⟨#[]⟩ : ByteArray)]) (t := 32) ?hr ?_; (case hd => rfl); (case hg => rfl); (case hr => first | (go_simp; done) | (go_simp; rfl)); intro gb145 hg w4 hbox hb; have n0_ := zM (blk_below (g := gb144) (o := .cells #[.int .i64 0, .int .i64 0, .int .i64 0, .int .i64 0, .int .i64 0, .int .i64 0, .int .i64 0, .string (⟨#[]⟩ : ByteArray)] 32 (0, 0)) (by (with_reducible repeat (first | refine bA ?_ _ | refine bB ?_ | refine bC ?_ _)); exact BK144.out) hb); have n1_ := zM (bG (by repeat (first | (with_reducible first | exact HB.out | apply bE | apply bD | apply bF | refine below_set ?_ GE144.out) | exact HB.out)) hb); have n2_ := zM (hbox); have n3_ := zM ((by rw [hg]; exact (below_size (by repeat (first | (with_reducible first | exact HB.out | apply bE | apply bD | apply bF | refine below_set ?_ GE144.out) | exact HB.out))) : w.heap.size ≤ gb145)); have n4_ := zM ((by rw [hg]; exact (below_size (by repeat (first | (with_reducible first | exact HB.out | apply bE | apply bD | apply bF | refine below_set ?_ GE144.out) | exact HB.out))) : w.heap.size ≤ gb145)); have n5_ := zM ((by rw [hg]; exact Nat.ne_of_lt (blk_lt (g := gb144) (o := .cells #[.int .i64 0, .int .i64 0, .int .i64 0, .int .i64 0, .int .i64 0, .int .i64 0, .int .i64 0, .string (⟨#[]⟩ : ByteArray)] 32 (0, 0)) (by (with_reducible repeat (first | refine bA ?_ _ | refine bB ?_ | refine bC ?_ _)); exact BK144.out)) : gb144 ≠ gb145)); have n6_ := zM ((by rw [hg]; exact Nat.ne_of_gt (blk_lt (g := gb144) (o := .cells #[.int .i64 0, .int .i64 0, .int .i64 0, .int .i64 0, .int .i64 0, .int .i64 0, .int .i64 0, .string (⟨#[]⟩ : ByteArray)] 32 (0, 0)) (by (with_reducible repeat (first | refine bA ?_ _ | refine bB ?_ | refine bC ?_ _)); exact BK144.out)) : gb145 ≠ gb144)); clear BK144; clear HB; have BK144 := n0_; have HB := n1_; have BK145 := n2_; have GW145 := n3_; have GE145 := n4_; have NB144_145 := n5_; have NB145_144 := n6_; clear n0_ n1_ n2_ n3_ n4_ n5_ n6_; clear hb hbox hg; have hnb5 := NB145_144.out; have hnc5 := NB144_145.out; have hcz6_0 : w4.cell? ⟨gb145, 0, none⟩ = some (.int .i64 0) := (blk_cell BK145.out 0).trans rfl; have hcz6_1 : w4.cell? ⟨gb145, 1, none⟩ = some (.int .i64 0) := (blk_cell BK145.out 1).trans rfl; have hcz6_2 : w4.cell? ⟨gb145, 2, none⟩ = some (.int .i64 0) := (blk_cell BK145.out 2).trans rfl; have hcz6_3 : w4.cell? ⟨gb145, 3, none⟩ = some (.int .i64 0) := (blk_cell BK145.out 3).trans rfl; have hcz6_4 : w4.cell? ⟨gb145, 4, none⟩ = some (.int .i64 0) := (blk_cell BK145.out 4).trans rfl; have hcz6_5 : w4.cell? ⟨gb145, 5, none⟩ = some (.int .i64 0) := (blk_cell BK145.out 5).trans rfl; have hcz6_6 : w4.cell? ⟨gb145, 6, none⟩ = some (.int .i64 0) := (blk_cell BK145.out 6).trans rfl; have hcz6_7 : w4.cell? ⟨gb145, 7, none⟩ = some (.string (⟨#[]⟩ : ByteArray)) := (blk_cell BK145.out 7).trans rfl; have hfz6_0 := blk_frozen BK145.out 0; have hfz6_1 := blk_frozen BK145.out 1; have hfz6_2 := blk_frozen BK145.out 2; have hfz6_3 := blk_frozen BK145.out 3; have hfz6_4 := blk_frozen BK145.out 4; have hfz6_5 := blk_frozen BK145.out 5; have hfz6_6 := blk_frozen BK145.out 6; have hfz6_7 := blk_frozen BK145.out 7))
 (try simp only [Act.put, zS, z0, z1])
 go_cut [] (fun wc => ∃ (kq : Nat) (x145000_1 : Int) (x145001_1 : Int) (x145002_1 : Int) (x145003_1 : Int) (x145004_1 : Int) (x145005_1 : Int) (x145006_1 : Int) (x145007_1 : ByteArray), Aside0 (spec_Unpack.j0 kq l0 0 0 0 0 0 0 0 (⟨#[]⟩ : ByteArray) = some (r1, r2, r3, r4, r5, r6, r7, r8, r9)) ∧ Aside0 (kq ≤ k) ∧ Aside0 (wc.heap[gb144]? = some (.cells #[.int .i64 x145000_1, .int .i64 x145001_1, .int .i64 x145002_1, .int .i64 x145003_1, .int .i64 x145004_1, .int .i64 x145005_1, .int .i64 x145006_1, .string x145007_1] 32 (0, 0))) ∧ Aside0 (wc.heap[gb145]? = some (.cells #[.int .i64 0, .int .i64 0, .int .i64 0, .int .i64 0, .int .i64 0, .int .i64 0, .int .i64 0, .string (⟨#[]⟩ : ByteArray)] 32 (0, 0))) ∧ Aside0 (Below w.heap.size w wc))
 case first =>
  have H := HC2.out
  clear HC2
  by_cases c7 : (l0.length : Int) < 2
  ·rw [if_pos c7] at H
   have c7b0 : decide ((l0.length : Int) < 2) = true := decide_eq_true c7
   have c7b1 : decide (l0.length < 2) = true := decide_eq_true (by omega)
   clear c7
   (first | rw [c7b0] | (simp only [i64_w, i32_w]; rw [c7b0]) | skip)
   simp only [zI, zJ] at H
   obtain ⟨rfl, rfl, rfl, rfl, rfl, rfl, rfl, rfl, rfl⟩ := H
   have hnb8 := NB145_144.out
   have hnc8 := NB144_145.out
   have hcz9_0 : w4.cell? ⟨gb145, 0, none⟩ = some (.int .i64 0) := (blk_cell BK145.out 0).trans rfl
   have hcz9_1 : w4.cell? ⟨gb145, 1, none⟩ = some (.int .i64 0) := (blk_cell BK145.out 1).trans rfl
   have hcz9_2 : w4.cell? ⟨gb145, 2, none⟩ = some (.int .i64 0) := (blk_cell BK145.out 2).trans rfl
   have hcz9_3 : w4.cell? ⟨gb145, 3, none⟩ = some (.int .i64 0) := (blk_cell BK145.out 3).trans rfl
   have hcz9_4 : w4.cell? ⟨gb145, 4, none⟩ = some (.int .i64 0) := (blk_cell BK145.out 4).trans rfl
   have hcz9_5 : w4.cell? ⟨gb145, 5, none⟩ = some (.int .i64 0) := (blk_cell BK145.out 5).trans rfl
   have hcz9_6 : w4.cell? ⟨gb145, 6, none⟩ = some (.int .i64 0) := (blk_cell BK145.out 6).trans rfl
   have hcz9_7 : w4.cell? ⟨gb145, 7, none⟩ = some (.string (⟨#[]⟩ : ByteArray)) := (blk_cell BK145.out 7).trans rfl
   have hfz9_0 := blk_frozen BK145.out 0
   have hfz9_1 := blk_frozen BK145.out 1
   have hfz9_2 := blk_frozen BK145.out 2
   have hfz9_3 := blk_frozen BK145.out 3
   have hfz9_4 := blk_frozen BK145.out 4
   have hfz9_5 := blk_frozen BK145.out 5
   have hfz9_6 := blk_frozen BK145.out 6
   have hfz9_7 := blk_frozen BK145.out 7
   have hcz10_0 : w4.cell? ⟨gb144, 0, none⟩ = some (.int .i64 0) := (blk_cell BK144.out 0).trans rfl
   have hcz10_1 : w4.cell? ⟨gb144, 1, none⟩ = some (.int .i64 0) := (blk_cell BK144.out 1).trans rfl
   have hcz10_2 : w4.cell? ⟨gb144, 2, none⟩ = some (.int .i64 0) := (blk_cell BK144.out 2).trans rfl
   have hcz10_3 : w4.cell? ⟨gb144, 3, none⟩ = some (.int .i64 0) := (blk_cell BK144.out 3).trans rfl
   have hcz10_4 : w4.cell? ⟨gb144, 4, none⟩ = some (.int .i64 0) := (blk_cell BK144.out 4).trans rfl
   have hcz10_5 : w4.cell? ⟨gb144, 5, none⟩ = some (.int .i64 0) := (blk_cell BK144.out 5).trans rfl
   have hcz10_6 : w4.cell? ⟨gb144, 6, none⟩ = some (.int .i64 0) := (blk_cell BK144.out 6).trans rfl
   have hcz10_7 : w4.cell? ⟨gb144, 7, none⟩ = some (.string (⟨#[]⟩ : ByteArray)) := (blk_cell BK144.out 7).trans rfl
   have hfz10_0 := blk_frozen BK144.out 0
   have hfz10_1 := blk_frozen BK144.out 1
   have hfz10_2 := blk_frozen BK144.out 2
   have hfz10_3 := blk_frozen BK144.out 3
   have hfz10_4 := blk_frozen BK144.out 4
   have hfz10_5 := blk_frozen BK144.out 5
   have hfz10_6 := blk_frozen BK144.out 6
   have hfz10_7 := blk_frozen BK144.out 7
   go_wp2
   refine bodyPost_ret (results_ct rfl _ _ gb144 32 #[.int .i64 0, .int .i64 0, .int .i64 0, .int .i64 0, .int .i64 0, .int .i64 0, .int .i64 0, .string (⟨#[]⟩ : ByteArray)] (0, 0) _ rfl (by (with_reducible repeat (first | refine bA ?_ _ | refine bB ?_ | refine bC ?_ _)); refine bH (cs := #[.int .i64 0, .int .i64 0, .int .i64 0, .int .i64 0, .int .i64 0, .int .i64 0, .int .i64 0, .string (⟨#[]⟩ : ByteArray)]) ?_ 7 _ rfl; (with_reducible repeat (first | refine bA ?_ _ | refine bB ?_ | refine bC ?_ _)); refine bH (cs := #[.int .i64 0, .int .i64 0, .int .i64 0, .int .i64 0, .int .i64 0, .int .i64 0, .int .i64 0, .string (⟨#[]⟩ : ByteArray)]) ?_ 6 _ rfl; (with_reducible repeat (first | refine bA ?_ _ | refine bB ?_ | refine bC ?_ _)); refine bH (cs := #[.int .i64 0, .int .i64 0, .int .i64 0, .int .i64 0, .int .i64 0, .int .i64 0, .int .i64 0, .string (⟨#[]⟩ : ByteArray)]) ?_ 5 _ rfl; (with_reducible repeat (first | refine bA ?_ _ | refine bB ?_ | refine bC ?_ _)); refine bH (cs := #[.int .i64 0, .int .i64 0, .int .i64 0, .int .i64 0, .int .i64 0, .int .i64 0, .int .i64 0, .string (⟨#[]⟩ : ByteArray)]) ?_ 4 _ rfl; (with_reducible repeat (first | refine bA ?_ _ | refine bB ?_ | refine bC ?_ _)); refine bH (cs := #[.int .i64 0, .int .i64 0, .int .i64 0, .int .i64 0, .int .i64 0, .int .i64 0, .int .i64 0, .string (⟨#[]⟩ : ByteArray)]) ?_ 3 _ rfl; (with_reducible repeat (first | refine bA ?_ _ | refine bB ?_ | refine bC ?_ _)); refine bH (cs := #[.int .i64 0, .int .i64 0, .int .i64 0, .int .i64 0, .int .i64 0, .int .i64 0, .int .i64 0, .string (⟨#[]⟩ : ByteArray)]) ?_ 2 _ rfl; (with_reducible repeat (first | refine bA ?_ _ | refine bB ?_ | refine bC ?_ _)); refine bH (cs := #[.int .i64 0, .int .i64 0, .int .i64 0, .int .i64 0, .int .i64 0, .int .i64 0, .int .i64 0, .string (⟨#[]⟩ : ByteArray)]) ?_ 1 _ rfl; (with_reducible repeat (first | refine bA ?_ _ | refine bB ?_ | refine bC ?_ _)); refine bH (cs := #[.int .i64 0, .int .i64 0, .int .i64 0, .int .i64 0, .int .i64 0, .int .i64 0, .int .i64 0, .string (⟨#[]⟩ : ByteArray)]) ?_ 0 _ rfl; (with_reducible repeat (first | refine bA ?_ _ | refine bB ?_ | refine bC ?_ _)); refine blk_far ?_ NB144_145.out _; (with_reducible repeat (first | refine bA ?_ _ | refine bB ?_ | refine bC ?_ _)); refine blk_far ?_ NB144_145.out _; (with_reducible repeat (first | refine bA ?_ _ | refine bB ?_ | refine bC ?_ _)); refine blk_far ?_ NB144_145.out _; (with_reducible repeat (first | refine bA ?_ _ | refine bB ?_ | refine bC ?_ _)); refine blk_far ?_ NB144_145.out _; (with_reducible repeat (first | refine bA ?_ _ | refine bB ?_ | refine bC ?_ _)); refine blk_far ?_ NB144_145.out _; (with_reducible repeat (first | refine bA ?_ _ | refine bB ?_ | refine bC ?_ _)); refine blk_far ?_ NB144_145.out _; (with_reducible repeat (first | refine bA ?_ _ | refine bB ?_ | refine bC ?_ _)); refine blk_far ?_ NB144_145.out _; (with_reducible repeat (first | refine bA ?_ _ | refine bB ?_ | refine bC ?_ _)); refine blk_far ?_ NB144_145.out _; (with_reducible repeat (first | refine bA ?_ _ | refine bB ?_ | refine bC ?_ _)); exact BK144.out) Try.underlying32 rfl (by kernel_rfl)) rfl ?_
   exact ⟨by first | rfl | (simp [*, errW_none, errW_some] <;> rfl), by repeat (first | (with_reducible first | exact HB.out | apply bE | apply bD | apply bF | refine below_set ?_ GE144.out | refine below_set ?_ GE145.out) | exact HB.out)⟩
  ·rw [if_neg c7] at H
   have c7b0 : decide ((l0.length : Int) < 2) = false := decide_eq_false c7
   have c7b1 : decide (l0.length < 2) = false := decide_eq_false (by omega)
   clear c7
   (first | rw [c7b0] | (simp only [i64_w, i32_w]; rw [c7b0]) | skip)
   have H' := zM H
   clear H
   go_wp2
   go_meet
   case rel => exact ⟨_, (0), (0), (0), (0), (0), (0), (0), ((⟨#[]⟩ : ByteArray)), H', ⟨by first | omega | exact Nat.le_refl _⟩, ⟨by (with_reducible repeat (first | refine bA ?_ _ | refine bB ?_ | refine bC ?_ _)); refine blk_far ?_ NB144_145.out _; (with_reducible repeat (first | refine bA ?_ _ | refine bB ?_ | refine bC ?_ _)); refine blk_far ?_ NB144_145.out _; (with_reducible repeat (first | refine bA ?_ _ | refine bB ?_ | refine bC ?_ _)); refine blk_far ?_ NB144_145.out _; (with_reducible repeat (first | refine bA ?_ _ | refine bB ?_ | refine bC ?_ _)); refine blk_far ?_ NB144_145.out _; (with_reducible repeat (first | refine bA ?_ _ | refine bB ?_ | refine bC ?_ _)); refine blk_far ?_ NB144_145.out _; (with_reducible repeat (first | refine bA ?_ _ | refine bB ?_ | refine bC ?_ _)); refine blk_far ?_ NB144_145.out _; (with_reducible repeat (first | refine bA ?_ _ | refine bB ?_ | refine bC ?_ _)); refine blk_far ?_ NB144_145.out _; (with_reducible repeat (first | refine bA ?_ _ | refine bB ?_ | refine bC ?_ _)); refine blk_far ?_ NB144_145.out _; (with_reducible repeat (first | refine bA ?_ _ | refine bB ?_ | refine bC ?_ _)); exact BK144.out⟩, ⟨by (with_reducible repeat (first | refine bA ?_ _ | refine bB ?_ | refine bC ?_ _)); refine bH (cs := #[.int .i64 0, .int .i64 0, .int .i64 0, .int .i64 0, .int .i64 0, .int .i64 0, .int .i64 0, .string (⟨#[]⟩ : ByteArray)]) ?_ 7 _ rfl; (with_reducible repeat (first | refine bA ?_ _ | refine bB ?_ | refine bC ?_ _)); refine bH (cs := #[.int .i64 0, .int .i64 0, .int .i64 0, .int .i64 0, .int .i64 0, .int .i64 0, .int .i64 0, .string (⟨#[]⟩ : ByteArray)]) ?_ 6 _ rfl; (with_reducible repeat (first | refine bA ?_ _ | refine bB ?_ | refine bC ?_ _)); refine bH (cs := #[.int .i64 0, .int .i64 0, .int .i64 0, .int .i64 0, .int .i64 0, .int .i64 0, .int .i64 0, .string (⟨#[]⟩ : ByteArray)]) ?_ 5 _ rfl; (with_reducible repeat (first | refine bA ?_ _ | refine bB ?_ | refine bC ?_ _)); refine bH (cs := #[.int .i64 0, .int .i64 0, .int .i64 0, .int .i64 0, .int .i64 0, .int .i64 0, .int .i64 0, .string (⟨#[]⟩ : ByteArray)]) ?_ 4 _ rfl; (with_reducible repeat (first | refine bA ?_ _ | refine bB ?_ | refine bC ?_ _)); refine bH (cs := #[.int .i64 0, .int .i64 0, .int .i64 0, .int .i64 0, .int .i64 0, .int .i64 0, .int .i64 0, .string (⟨#[]⟩ : ByteArray)]) ?_ 3 _ rfl; (with_reducible repeat (first | refine bA ?_ _ | refine bB ?_ | refine bC ?_ _)); refine bH (cs := #[.int .i64 0, .int .i64 0, .int .i64 0, .int .i64 0, .int .i64 0, .int .i64 0, .int .i64 0, .string (⟨#[]⟩ : ByteArray)]) ?_ 2 _ rfl; (with_reducible repeat (first | refine bA ?_ _ | refine bB ?_ | refine bC ?_ _)); refine bH (cs := #[.int .i64 0, .int .i64 0, .int .i64 0, .int .i64 0, .int .i64 0, .int .i64 0, .int .i64 0, .string (⟨#[]⟩ : ByteArray)]) ?_ 1 _ rfl; (with_reducible repeat (first | refine bA ?_ _ | refine bB ?_ | refine bC ?_ _)); refine bH (cs := #[.int .i64 0, .int .i64 0, .int .i64 0, .int .i64 0, .int .i64 0, .int .i64 0, .int .i64 0, .string (⟨#[]⟩ : ByteArray)]) ?_ 0 _ rfl; (with_reducible repeat (first | refine bA ?_ _ | refine bB ?_ | refine bC ?_ _)); exact BK145.out⟩, ⟨by repeat (first | (with_reducible first | exact HB.out | apply bE | apply bD | apply bF | refine below_set ?_ GE144.out | refine below_set ?_ GE145.out) | exact HB.out)⟩⟩
 case rest =>
  clear HC2
  try clear c1
  try clear p2
  try clear c5
  try clear c7
  try clear c7b0
  try clear c7b1
  try clear c8
  try clear hcz10_0
  try clear hcz10_1
  try clear hcz10_2
  try clear hcz10_3
  try clear hcz10_4
  try clear hcz10_5
  try clear hcz10_6
  try clear hcz10_7
  try clear hcz6_0
  try clear hcz6_1
  try clear hcz6_2
  try clear hcz6_3
  try clear hcz6_4
  try clear hcz6_5
  try clear hcz6_6
  try clear hcz6_7
  try clear hcz9_0
  try clear hcz9_1
  try clear hcz9_2
  try clear hcz9_3
  try clear hcz9_4
  try clear hcz9_5
  try clear hcz9_6
  try clear hcz9_7
  try clear hfz10_0
  try clear hfz10_1
  try clear hfz10_2
  try clear hfz10_3
  try clear hfz10_4
  try clear hfz10_5
  try clear hfz10_6
  try clear hfz10_7
  try clear hfz6_0
  try clear hfz6_1
  try clear hfz6_2
  try clear hfz6_3
  try clear hfz6_4
  try clear hfz6_5
  try clear hfz6_6
  try clear hfz6_7
  try clear hfz9_0
  try clear hfz9_1
  try clear hfz9_2
  try clear hfz9_3
  try clear hfz9_4
  try clear hfz9_5
  try clear hfz9_6
  try clear hfz9_7
  obtain ⟨kq, x145000_1, x145001_1, x145002_1, x145003_1, x145004_1, x145005_1, x145006_1, x145007_1, HA, HJ1, BK144, BK145, HB⟩ := hcut
  cases kq with
  | zero => exact absurd HA.out (by simp [spec_Unpack.j0])
  | succ kj1 =>
   have H := HA.out
   clear HA
   simp only [spec_Unpack.j0] at H
   obtain ⟨ji11, hji11⟩ : ∃ j_ : Int, (wrap64 ((l0.length : Int) - 1)) = j_ := ⟨_, rfl⟩
   replace H : (if 0 ≤ (ji11) then (if (ji11) ≤ (l0.length : Int) then ((spec_Check8.f kj1 (l0.take ((ji11) : Int).toNat)).bind fun t147 => (if (ji11) < (l0.length : Int) then (if t147 = (wrap64 (rd l0 (ji11))) then (spec_Unpack.j1 kj1 (l0.take ((ji11) : Int).toNat) 0 0 0 0 0 0 0 (⟨#[]⟩ : ByteArray)) else (some (0, 0, 0, 0, 0, 0, 0, (⟨#[]⟩ : ByteArray), 2))) else (none))) else (none)) else (none)) = some (r1, r2, r3, r4, r5, r6, r7, r8, r9) := by first | (rw [hji11] at H; exact H) | (simp only [hji11] at H ⊢; exact H)
   have hji11w : (IntKind.i64.wrap ((l0.length : Int) - 1)) = ji11 := (i64_w _).trans hji11
   by_cases c12 : 0 ≤ (ji11)
   ·rw [if_pos c12] at H
    have c12b0 := eq_true c12
    have c12b1 : decide (0 ≤ (ji11)) = true := decide_eq_true c12
    clear c12
    by_cases c13 : (ji11) ≤ (l0.length : Int)
    ·rw [if_pos c13] at H
     have c13b0 := eq_true c13
     have c13b1 : decide ((ji11) ≤ (l0.length : Int)) = true := decide_eq_true c13
     clear c13
     replace H := zO H
     obtain ⟨t147, A140, H⟩ := H
     replace H : (if (ji11) < (l0.length : Int) then (if t147 = (wrap64 (rd l0 (ji11))) then (spec_Unpack.j1 kj1 (l0.take ((ji11) : Int).toNat) 0 0 0 0 0 0 0 (⟨#[]⟩ : ByteArray)) else (some (0, 0, 0, 0, 0, 0, 0, (⟨#[]⟩ : ByteArray), 2))) else (none)) = some (r1, r2, r3, r4, r5, r6, r7, r8, r9) := H
     have A14 := zM A140
     clear A140
     by_cases c15 : (ji11) < (l0.length : Int)
     ·rw [if_pos c15] at H
      have c15b0 : decide ((ji11) < (l0.length : Int)) = true := decide_eq_true c15
      clear c15
      have HC16 := zM H
      clear H
      obtain ⟨i017, hi017, _, hsz17, _⟩ := info_parts info5
      obtain ⟨hcut17, hA17, hC17⟩ := print_take_of (P := Try.prog) (Value.int .u8) 0 27 5 .i64 Try.underlying27 hi017 hsz17 A0 c0 l0 (ji11) (of_decide_eq_true (by first | (with_reducible assumption) | assumption)) (of_decide_eq_true (by first | (with_reducible assumption) | assumption)) HC0.out
      have HZ_ji11_l0 : Aside0 (((ji11) : Int) ≤ (l0.length : Int)) := ⟨of_decide_eq_true (by first | (with_reducible assumption) | assumption)⟩
      have HR146 := zM (Kd.C_of_reads (h1 := fun _ => rfl) (hA17 _ (Kd.reads_of_C HR0.out)))
      have HC146 := zM hC17
      clear hA17 hC17 hi017 hsz17
      obtain ⟨yy17, hyy17⟩ : ∃ y_ : List Int, y_ = (l0.take ((ji11) : Int).toNat) := ⟨_, rfl⟩
      rw [← hyy17] at hcut17
      (try rw [← hyy17] at HR0)
      (try rw [← hyy17] at HC0)
      (try rw [← hyy17] at HC2)
      (try rw [← hyy17] at H')
      (try rw [← hyy17] at A14)
      (try rw [← hyy17] at HC16)
      (try rw [← hyy17] at HR146)
      (try rw [← hyy17] at HC146)
      have Nyy17 := zM hyy17
      clear hyy17
      try go_wp2
      have n0_ := zM (bB BK144.out)
      have n1_ := zM (bB BK145.out)
      have n2_ := zM (bF HB.out)
      clear BK144
      clear BK145
      clear HB
      have BK144 := n0_
      have BK145 := n1_
      have HB := n2_
      clear n0_ n1_ n2_
      have p148 : 0 ≤ ((ji11) : Int) := of_decide_eq_true (by first | (with_reducible assumption) | assumption)
      have q148 : (ji11) < (l0.length : Int) := of_decide_eq_true (by first | (with_reducible assumption) | assumption)
      obtain ⟨ad148, e148, hx148_0⟩ := Kd.at_int HR0.out (ji11) p148 q148
      have hw148_0 := hx148_0
      cases e148
      replace hx148_0 := (HB.out.cell (World.block_lt_of_cell? w _ hx148_0)).trans hx148_0
      replace p148 := eq_true p148
      replace q148 := eq_true q148
      (try (have q148d := q148; simp only [List.length_drop] at q148d))
      (try (have q148e := of_eq_true q148; rw [List.length_take] at q148e; replace q148e := Int.lt_of_lt_of_le q148e (Int.ofNat_le.mpr (Nat.min_le_left _ _)); rw [Int.ofNat_toNat] at q148e; have q148g := eq_false (Int.not_le.mpr q148e); replace q148e := eq_true q148e))
      refine start_ (n := 10) (S := fun w' => w'.cell? (ad148.add ((ji11)).toNat) = some (.int .u8 (rd l0 (ji11)))) (ds := []) #[false, false, false, false, false, false, false, false, false, false] (by kernel_rfl) rfl rfl (((HB.out.cell (World.block_lt_of_cell? w _ hw148_0)).trans hw148_0)) (fun hHeld => ?_); refine with_tabW spec_Unpack.tab5 spec_Unpack.bits5 (fun HT_ HW_ => ?_)
      generalize wc.drew = w18 at BK144 BK145 HB hx148_0 hHeld ⊢
      refine pure_ (i := 0) (N := some 25) (v := ?_) (a' := ?_) #[true, false, false, false, false, false, false, false, false, false] rfl rfl (any_of HT_.out (by kernel_rfl)) (fun _ _ _ h => h) (Or.inl ⟨by rfl, ?_⟩) ?_ ?_
      rotate_left
      ·intro w'
       go_simp
       with_reducible rfl
      rotate_left
      ·simp only [Act.put, zS, z0, z1, i64_w, i32_w]
       rfl
      refine pure_ (i := 2) (N := some 27) (v := ?_) (a' := ?_) #[true, false, true, false, false, false, false, false, false, false] rfl rfl (any_of HT_.out (by kernel_rfl)) (fun _ _ _ h => h) (Or.inl ⟨by rfl, ?_⟩) ?_ ?_
      rotate_left
      ·intro w'
       go_simp
       with_reducible rfl
      rotate_left
      ·simp only [Act.put, zS, z0, z1, i64_w, i32_w]
       rfl
      refine pure_ (i := 3) (N := some 28) (v := ?_) (a' := ?_) #[true, false, true, true, false, false, false, false, false, false] rfl rfl (any_of HT_.out (by kernel_rfl)) (fun _ _ _ h => h) (Or.inl ⟨by rfl, ?_⟩) ?_ ?_
      rotate_left
      ·intro w'
       go_simp
       with_reducible rfl
      rotate_left
      ·simp only [Act.put, zS, z0, z1, i64_w, i32_w]
       rfl
      refine pure_ (i := 4) (N := some 29) (v := ?_) (a' := ?_) #[true, false, true, true, true, false, false, false, false, false] rfl rfl (any_of HT_.out (by kernel_rfl)) (fun _ _ _ h => h) (Or.inl ⟨by rfl, ?_⟩) ?_ ?_
      rotate_left
      ·intro w'
       go_simp
       with_reducible rfl
      rotate_left
      ·simp only [Act.put, zS, z0, z1, i64_w, i32_w]
       rfl
      refine pure_ (i := 5) (N := some 30) (v := ?_) (a' := ?_) #[true, false, true, true, true, true, false, false, false, false] rfl rfl (any_of HT_.out (by kernel_rfl)) (fun _ _ _ h => h) (Or.inl ⟨by rfl, ?_⟩) ?_ ?_
      rotate_left
      ·intro w'
       go_simp
       with_reducible rfl
      rotate_left
      ·simp only [Act.put, zS, z0, z1, i64_w, i32_w]
       rfl
      refine pure_ (i := 6) (N := some 31) (v := ?_) (a' := ?_) #[true, false, true, true, true, true, true, false, false, false] rfl rfl (any_of HT_.out (by kernel_rfl)) (fun _ _ _ h => h) (Or.inl ⟨by rfl, ?_⟩) ?_ ?_
      rotate_left
      ·intro w'
       go_simp
       with_reducible rfl
      rotate_left
      ·simp only [Act.put, zS, z0, z1, i64_w, i32_w]
       rfl
      refine take_ (i := 7) (N := some 32) (v := ?_) (a' := ?_) #[true, false, true, true, true, true, true, true, false, false] rfl rfl (take_ofW HT_.out HW_.out (by kernel_rfl)) (fun _ _ _ h => h) (Or.inl ⟨by rfl, ?_⟩) hHeld ?_ ?_
      rotate_left
      ·intro w' s0
       go_simp
       with_reducible rfl
      rotate_left
      ·simp only [Act.put, zS, z0, z1, i64_w, i32_w]
       rfl
      refine pure_ (i := 8) (N := some 33) (v := ?_) (a' := ?_) #[true, false, true, true, true, true, true, true, true, false] rfl rfl (any_of HT_.out (by kernel_rfl)) (fun _ _ _ h => h) (Or.inl ⟨by rfl, ?_⟩) ?_ ?_
      rotate_left
      ·intro w'
       go_simp
       with_reducible rfl
      rotate_left
      ·simp only [Act.put, zS, z0, z1, i64_w, i32_w]
       rfl
      refine one_ (i := 1) (N := some 26) #[true, true, true, true, true, true, true, true, true, false] rfl rfl (one_of HT_.out (by kernel_rfl)) (by decide) (fun K hK => ?_)
      refine goes_ Try.func40 (by kernel_rfl) rfl #[.slice (some ad148) yy17.length c0] (by rfl) rfl rfl (by (try simp only [List.map_toArray, List.map_cons, List.map_nil]); first | done | (rw [show yy17.length = (ji11).toNat from (by rw [List.length_take]; have h_ : ((ji11) : Int) ≤ (l0.length : Int) := (by first | exact HZ_ji11_l0.out | exact of_decide_eq_true (by first | (with_reducible assumption) | assumption)); omega)] <;> rfl) | (simp only [hji11]; rfl) | rfl | (simp only [List.length_drop, List.length_take]; rfl)) ?_
      with_reducible refine (spec_Check8.calls kj1 _ _ yy17 t147 _ ?side1 ?side2 A14.out).mono ?_
      (case side1 => repeat (first | exact (Kd.C_below HR146.out HB.out) | (with_reducible refine Kd.C_alloc ?_ _) | (with_reducible refine Kd.C_drewN ?_ _) | (with_reducible refine Kd.C_drew ?_)))
      (case side2 => exact HC146.out)
      rintro e w' ⟨rfl, ⟨nd, rfl⟩⟩
      refine ⟨_, rfl, ?_⟩
      refine hK.out _ _ (((HB.out.cell (World.block_lt_of_cell? w _ hw148_0)).trans hw148_0)) (fun hHeld => ?_)
      clear hK K
      refine norm_ (a' := ?_) ?_ ?_
      rotate_left
      ·show Act.put _ (some 26) _ = _
       simp only [Act.put, zS, z0, z1, i64_w, i32_w]
       rfl
      refine pure_ (i := 9) (N := some 34) (v := ?_) (a' := ?_) #[true, true, true, true, true, true, true, true, true, true] rfl rfl (any_of HT_.out (by kernel_rfl)) (fun _ _ _ h => h) (Or.inl ⟨by rfl, ?_⟩) ?_ ?_
      rotate_left
      ·intro w'
       go_simp
       with_reducible rfl
      rotate_left
      ·simp only [Act.put, zS, z0, z1, i64_w, i32_w]
       rfl
      refine done_ (done_of HT_.out (by kernel_rfl)) ?_
      go_upto_if 34 with (fail)
      go_cut [] (fun wc => ∃ (kq : Nat) (x145000_15 : Int) (x145001_15 : Int) (x145002_15 : Int) (x145003_15 : Int) (x145004_15 : Int) (x145005_15 : Int) (x145006_15 : Int) (x145007_15 : ByteArray), Aside0 (spec_Unpack.j1 kq yy17 0 0 0 0 0 0 0 (⟨#[]⟩ : ByteArray) = some (r1, r2, r3, r4, r5, r6, r7, r8, r9)) ∧ Aside0 (kq ≤ kj1) ∧ Aside0 (wc.heap[gb144]? = some (.cells #[.int .i64 x145000_15, .int .i64 x145001_15, .int .i64 x145002_15, .int .i64 x145003_15, .int .i64 x145004_15, .int .i64 x145005_15, .int .i64 x145006_15, .string x145007_15] 32 (0, 0))) ∧ Aside0 (wc.heap[gb145]? = some (.cells #[.int .i64 0, .int .i64 0, .int .i64 0, .int .i64 0, .int .i64 0, .int .i64 0, .int .i64 0, .string (⟨#[]⟩ : ByteArray)] 32 (0, 0))) ∧ Aside0 (Below w.heap.size w wc))
      case first =>
       have H := HC16.out
       clear HC16
       by_cases c19 : t147 = (wrap64 (rd l0 (ji11)))
       ·rw [if_pos c19] at H
        have c19b0 : (t147 == (wrap64 (rd l0 (ji11)))) = true := beq_iff_eq.mpr c19
        have c19b1 : (t147 != (wrap64 (rd l0 (ji11)))) = false := bne_eq_false_iff_eq.mpr c19
        clear c19
        (first | rw [c19b0] | (simp only [i64_w, i32_w]; rw [c19b0]) | skip)
        have H' := zM H
        clear H
        go_wp2
        go_meet
        case rel => exact ⟨_, (x145000_1), (x145001_1), (x145002_1), (x145003_1), (x145004_1), (x145005_1), (x145006_1), (x145007_1), H', ⟨by have := HJ1.out; first | omega | exact Nat.le_refl _⟩, ⟨by (with_reducible repeat (first | refine bA ?_ _ | refine bB ?_ | refine bC ?_ _)); exact BK144.out⟩, ⟨by (with_reducible repeat (first | refine bA ?_ _ | refine bB ?_ | refine bC ?_ _)); exact BK145.out⟩, ⟨by repeat (first | (with_reducible first | exact HB.out | apply bE | apply bD | apply bF | refine below_set ?_ GE144.out | refine below_set ?_ GE145.out) | exact HB.out)⟩⟩
       ·rw [if_neg c19] at H
        have c19b0 : (t147 == (wrap64 (rd l0 (ji11)))) = false := beq_eq_false_iff_ne.mpr c19
        have c19b1 : (t147 != (wrap64 (rd l0 (ji11)))) = true := bne_iff_ne.mpr c19
        (first | rw [c19b0] | (simp only [i64_w, i32_w]; rw [c19b0]) | skip)
        simp only [zI, zJ] at H
        obtain ⟨rfl, rfl, rfl, rfl, rfl, rfl, rfl, rfl, rfl⟩ := H
        have hnb20 := NB145_144.out
        have hnc20 := NB144_145.out
        have hcz21_0 : w18.cell? ⟨gb145, 0, none⟩ = some (.int .i64 0) := (blk_cell BK145.out 0).trans rfl
        have hcz21_1 : w18.cell? ⟨gb145, 1, none⟩ = some (.int .i64 0) := (blk_cell BK145.out 1).trans rfl
        have hcz21_2 : w18.cell? ⟨gb145, 2, none⟩ = some (.int .i64 0) := (blk_cell BK145.out 2).trans rfl
        have hcz21_3 : w18.cell? ⟨gb145, 3, none⟩ = some (.int .i64 0) := (blk_cell BK145.out 3).trans rfl
        have hcz21_4 : w18.cell? ⟨gb145, 4, none⟩ = some (.int .i64 0) := (blk_cell BK145.out 4).trans rfl
        have hcz21_5 : w18.cell? ⟨gb145, 5, none⟩ = some (.int .i64 0) := (blk_cell BK145.out 5).trans rfl
        have hcz21_6 : w18.cell? ⟨gb145, 6, none⟩ = some (.int .i64 0) := (blk_cell BK145.out 6).trans rfl
        have hcz21_7 : w18.cell? ⟨gb145, 7, none⟩ = some (.string (⟨#[]⟩ : ByteArray)) := (blk_cell BK145.out 7).trans rfl
        have hfz21_0 := blk_frozen BK145.out 0
        have hfz21_1 := blk_frozen BK145.out 1
        have hfz21_2 := blk_frozen BK145.out 2
        have hfz21_3 := blk_frozen BK145.out 3
        have hfz21_4 := blk_frozen BK145.out 4
        have hfz21_5 := blk_frozen BK145.out 5
        have hfz21_6 := blk_frozen BK145.out 6
        have hfz21_7 := blk_frozen BK145.out 7
        have hcz22_0 : w18.cell? ⟨gb144, 0, none⟩ = some (.int .i64 x145000_1) := (blk_cell BK144.out 0).trans rfl
        have hcz22_1 : w18.cell? ⟨gb144, 1, none⟩ = some (.int .i64 x145001_1) := (blk_cell BK144.out 1).trans rfl
        have hcz22_2 : w18.cell? ⟨gb144, 2, none⟩ = some (.int .i64 x145002_1) := (blk_cell BK144.out 2).trans rfl
        have hcz22_3 : w18.cell? ⟨gb144, 3, none⟩ = some (.int .i64 x145003_1) := (blk_cell BK144.out 3).trans rfl
        have hcz22_4 : w18.cell? ⟨gb144, 4, none⟩ = some (.int .i64 x145004_1) := (blk_cell BK144.out 4).trans rfl
        have hcz22_5 : w18.cell? ⟨gb144, 5, none⟩ = some (.int .i64 x145005_1) := (blk_cell BK144.out 5).trans rfl
        have hcz22_6 : w18.cell? ⟨gb144, 6, none⟩ = some (.int .i64 x145006_1) := (blk_cell BK144.out 6).trans rfl
        have hcz22_7 : w18.cell? ⟨gb144, 7, none⟩ = some (.string x145007_1) := (blk_cell BK144.out 7).trans rfl
        have hfz22_0 := blk_frozen BK144.out 0
        have hfz22_1 := blk_frozen BK144.out 1
        have hfz22_2 := blk_frozen BK144.out 2
        have hfz22_3 := blk_frozen BK144.out 3
        have hfz22_4 := blk_frozen BK144.out 4
        have hfz22_5 := blk_frozen BK144.out 5
        have hfz22_6 := blk_frozen BK144.out 6
        have hfz22_7 := blk_frozen BK144.out 7
        go_wp2
        refine bodyPost_ret (results_ct rfl _ _ gb144 32 #[.int .i64 0, .int .i64 0, .int .i64 0, .int .i64 0, .int .i64 0, .int .i64 0, .int .i64 0, .string (⟨#[]⟩ : ByteArray)] (0, 0) _ rfl (by (with_reducible repeat (first | refine bA ?_ _ | refine bB ?_ | refine bC ?_ _)); refine bH (cs := #[.int .i64 0, .int .i64 0, .int .i64 0, .int .i64 0, .int .i64 0, .int .i64 0, .int .i64 0, .string x145007_1]) ?_ 7 _ rfl; (with_reducible repeat (first | refine bA ?_ _ | refine bB ?_ | refine bC ?_ _)); refine bH (cs := #[.int .i64 0, .int .i64 0, .int .i64 0, .int .i64 0, .int .i64 0, .int .i64 0, .int .i64 x145006_1, .string x145007_1]) ?_ 6 _ rfl; (with_reducible repeat (first | refine bA ?_ _ | refine bB ?_ | refine bC ?_ _)); refine bH (cs := #[.int .i64 0, .int .i64 0, .int .i64 0, .int .i64 0, .int .i64 0, .int .i64 x145005_1, .int .i64 x145006_1, .string x145007_1]) ?_ 5 _ rfl; (with_reducible repeat (first | refine bA ?_ _ | refine bB ?_ | refine bC ?_ _)); refine bH (cs := #[.int .i64 0, .int .i64 0, .int .i64 0, .int .i64 0, .int .i64 x145004_1, .int .i64 x145005_1, .int .i64 x145006_1, .string x145007_1]) ?_ 4 _ rfl; (with_reducible repeat (first | refine bA ?_ _ | refine bB ?_ | refine bC ?_ _)); refine bH (cs := #[.int .i64 0, .int .i64 0, .int .i64 0, .int .i64 x145003_1, .int .i64 x145004_1, .int .i64 x145005_1, .int .i64 x145006_1, .string x145007_1]) ?_ 3 _ rfl; (with_reducible repeat (first | refine bA ?_ _ | refine bB ?_ | refine bC ?_ _)); refine bH (cs := #[.int .i64 0, .int .i64 0, .int .i64 x145002_1, .int .i64 x145003_1, .int .i64 x145004_1, .int .i64 x145005_1, .int .i64 x145006_1, .string x145007_1]) ?_ 2 _ rfl; (with_reducible repeat (first | refine bA ?_ _ | refine bB ?_ | refine bC ?_ _)); refine bH (cs := #[.int .i64 0, .int .i64 x145001_1, .int .i64 x145002_1, .int .i64 x145003_1, .int .i64 x145004_1, .int .i64 x145005_1, .int .i64 x145006_1, .string x145007_1]) ?_ 1 _ rfl; (with_reducible repeat (first | refine bA ?_ _ | refine bB ?_ | refine bC ?_ _)); refine bH (cs := #[.int .i64 x145000_1, .int .i64 x145001_1, .int .i64 x145002_1, .int .i64 x145003_1, .int .i64 x145004_1, .int .i64 x145005_1, .int .i64 x145006_1, .string x145007_1]) ?_ 0 _ rfl; (with_reducible repeat (first | refine bA ?_ _ | refine bB ?_ | refine bC ?_ _)); exact BK144.out) Try.underlying32 rfl (by kernel_rfl)) rfl ?_
        exact ⟨by first | rfl | (simp only [← hji11]; first | rfl | (simp [errW_none, errW_some] <;> rfl)) | (simp [*, errW_none, errW_some] <;> rfl), by repeat (first | (with_reducible first | exact HB.out | apply bE | apply bD | apply bF | refine below_set ?_ GE144.out | refine below_set ?_ GE145.out) | exact HB.out)⟩
      case rest =>
       clear HC16
       try clear c1
       try clear p1
       try clear q1
       try clear hx1
       try clear c2
       try clear p2
       try clear c4
       try clear c5
       try clear p6
       try clear c7
       try clear c7b0
       try clear c7b1
       try clear c8
       try clear c12
       try clear c12b0
       try clear c12b1
       try clear c13
       try clear c13b0
       try clear c13b1
       try clear p14
       try clear q14
       try clear hx14
       try clear c15
       try clear c15b0
       try clear c17
       try clear c19
       try clear c19b0
       try clear c19b1
       try clear c20
       try clear hcz10_0
       try clear hcz10_1
       try clear hcz10_2
       try clear hcz10_3
       try clear hcz10_4
       try clear hcz10_5
       try clear hcz10_6
       try clear hcz10_7
       try clear hcz21_0
       try clear hcz21_1
       try clear hcz21_2
       try clear hcz21_3
       try clear hcz21_4
       try clear hcz21_5
       try clear hcz21_6
       try clear hcz21_7
       try clear hcz22_0
       try clear hcz22_1
       try clear hcz22_2
       try clear hcz22_3
       try clear hcz22_4
       try clear hcz22_5
       try clear hcz22_6
       try clear hcz22_7
       try clear hcz6_0
       try clear hcz6_1
       try clear hcz6_2
       try clear hcz6_3
       try clear hcz6_4
       try clear hcz6_5
       try clear hcz6_6
       try clear hcz6_7
       try clear hcz9_0
       try clear hcz9_1
       try clear hcz9_2
       try clear hcz9_3
       try clear hcz9_4
       try clear hcz9_5
       try clear hcz9_6
       try clear hcz9_7
       try clear hfz10_0
       try clear hfz10_1
       try clear hfz10_2
       try clear hfz10_3
       try clear hfz10_4
       try clear hfz10_5
       try clear hfz10_6
       try clear hfz10_7
       try clear hfz21_0
       try clear hfz21_1
       try clear hfz21_2
       try clear hfz21_3
       try clear hfz21_4
       try clear hfz21_5
       try clear hfz21_6
       try clear hfz21_7
       try clear hfz22_0
       try clear hfz22_1
       try clear hfz22_2
       try clear hfz22_3
       try clear hfz22_4
       try clear hfz22_5
       try clear hfz22_6
       try clear hfz22_7
       try clear hfz6_0
       try clear hfz6_1
       try clear hfz6_2
       try clear hfz6_3
       try clear hfz6_4
       try clear hfz6_5
       try clear hfz6_6
       try clear hfz6_7
       try clear hfz9_0
       try clear hfz9_1
       try clear hfz9_2
       try clear hfz9_3
       try clear hfz9_4
       try clear hfz9_5
       try clear hfz9_6
       try clear hfz9_7
       try clear hx148_0
       try clear p148
       try clear p2
       try clear q148
       obtain ⟨kq, x145000_15, x145001_15, x145002_15, x145003_15, x145004_15, x145005_15, x145006_15, x145007_15, HA, HJ15, BK144, BK145, HB⟩ := hcut
       cases kq with
       | zero => exact absurd HA.out (by simp [spec_Unpack.j1])
       | succ kj15 =>
        have H := HA.out
        clear HA
        simp only [spec_Unpack.j1] at H
        by_cases c23 : 0 < (yy17.length : Int)
        ·rw [if_pos c23] at H
         have c23b0 : decide (0 < (yy17.length : Int)) = true := decide_eq_true c23
         have c23b1 : decide (0 < yy17.length) = true := decide_eq_true (by omega)
         clear c23
         replace H := zO H
         obtain ⟨t150, A240, H⟩ := H
         replace H : (if t150 = true then (spec_Unpack.j2 kj15 yy17 (wrap64 (rd yy17 0)) 0 0 0 0 0 0 0 (⟨#[]⟩ : ByteArray)) else (some (0, 0, 0, 0, 0, 0, 0, (⟨#[]⟩ : ByteArray), 3))) = some (r1, r2, r3, r4, r5, r6, r7, r8, r9) := H
         have A24 := zM A240
         clear A240
         have HC25 := zM H
         clear H
         have p149 : 0 ≤ (0 : Int) := (by omega)
         have q149 : 0 < (yy17.length : Int) := of_decide_eq_true (by first | (with_reducible assumption) | assumption)
         obtain ⟨ad149, e149, hx149_0⟩ := Kd.at_int HR146.out 0 p149 q149
         obtain rfl : ad148 = ad149 := (by injection e149)
         have qi149 : (0 < yy17.length) = True := eq_true (by omega)
         (try rw [show ((0 : Int)).toNat = 0 from rfl] at hx149_0)
         (try rw [Addr.add_zero'] at hx149_0)
         replace hx149_0 := (HB.out.cell (World.block_lt_of_cell? w _ hx149_0)).trans hx149_0
         replace p149 := eq_true p149
         replace q149 := eq_true q149
         (try (have q149d := q149; simp only [List.length_drop] at q149d))
         (try (have q149e := of_eq_true q149; rw [List.length_take] at q149e; replace q149e := Int.lt_of_lt_of_le q149e (Int.ofNat_le.mpr (Nat.min_le_left _ _)); rw [Int.ofNat_toNat] at q149e; have q149g := eq_false (Int.not_le.mpr q149e); replace q149e := eq_true q149e))
         go_upto_if 42 with (first | ((with_reducible refine gate_callee (f := 43) rfl ?_); refine goesL_ (some 41) rfl rfl Try.func43 (by kernel_rfl) rfl #[.int .i64 (wrap64 (rd yy17 0)), .int .i64 1, .int .i64 3] rfl (by (try simp only [List.map_toArray, List.map_cons, List.map_nil]); first | done | (simp only [hji11]; rfl) | rfl | (simp only [List.length_drop, List.length_take]; rfl)) ?_; (with_reducible refine (spec_l1In.calls (wrap64 (rd yy17 0)) 1 3 t150 _ A24.out).mono ?_); rintro e w' ⟨rfl, ⟨nd, rfl⟩⟩; refine ⟨_, rfl, ?_⟩))
         (try simp only [Act.put, zS, z0, z1])
         go_cut [] (fun wc => ∃ (kq : Nat) (x145000_24 : Int) (x145001_24 : Int) (x145002_24 : Int) (x145003_24 : Int) (x145004_24 : Int) (x145005_24 : Int) (x145006_24 : Int) (x145007_24 : ByteArray), Aside0 (spec_Unpack.j2 kq yy17 (wrap64 (rd yy17 0)) 0 0 0 0 0 0 0 (⟨#[]⟩ : ByteArray) = some (r1, r2, r3, r4, r5, r6, r7, r8, r9)) ∧ Aside0 (kq ≤ kj15) ∧ Aside0 (wc.heap[gb144]? = some (.cells #[.int .i64 x145000_24, .int .i64 x145001_24, .int .i64 x145002_24, .int .i64 x145003_24, .int .i64 x145004_24, .int .i64 x145005_24, .int .i64 x145006_24, .string x145007_24] 32 (0, 0))) ∧ Aside0 (wc.heap[gb145]? = some (.cells #[.int .i64 0, .int .i64 0, .int .i64 0, .int .i64 0, .int .i64 0, .int .i64 0, .int .i64 0, .string (⟨#[]⟩ : ByteArray)] 32 (0, 0))) ∧ Aside0 (Below w.heap.size w wc))
         case first =>
          have H := HC25.out
          clear HC25
          by_cases c26 : t150 = true
          ·subst c26
           have H1 : (spec_Unpack.j2 kj15 yy17 (wrap64 (rd yy17 0)) 0 0 0 0 0 0 0 (⟨#[]⟩ : ByteArray)) = some (r1, r2, r3, r4, r5, r6, r7, r8, r9) := by rw [if_pos rfl] at H; exact H
           clear H
           have H := H1
           clear H1
           have H' := zM H
           clear H
           go_wp2
           go_meet
           case rel => exact ⟨_, (x145000_15), (x145001_15), (x145002_15), (x145003_15), (x145004_15), (x145005_15), (x145006_15), (x145007_15), H', ⟨by have := HJ1.out; have := HJ15.out; first | omega | exact Nat.le_refl _⟩, ⟨by (with_reducible repeat (first | refine bA ?_ _ | refine bB ?_ | refine bC ?_ _)); exact BK144.out⟩, ⟨by (with_reducible repeat (first | refine bA ?_ _ | refine bB ?_ | refine bC ?_ _)); exact BK145.out⟩, ⟨by repeat (first | (with_reducible first | exact HB.out | apply bE | apply bD | apply bF | refine below_set ?_ GE144.out | refine below_set ?_ GE145.out) | exact HB.out)⟩⟩
          ·replace c26 := Bool.eq_false_iff.mpr c26
           subst c26
           have H1 : (some (0, 0, 0, 0, 0, 0, 0, (⟨#[]⟩ : ByteArray), 3)) = some (r1, r2, r3, r4, r5, r6, r7, r8, r9) := by rw [if_neg (show ¬ (false = true) by decide)] at H; exact H
           clear H
           have H := H1
           clear H1
           simp only [zI, zJ] at H
           obtain ⟨rfl, rfl, rfl, rfl, rfl, rfl, rfl, rfl, rfl⟩ := H
           have hnb27 := NB145_144.out
           have hnc27 := NB144_145.out
           have hcz28_0 : wc.cell? ⟨gb145, 0, none⟩ = some (.int .i64 0) := (blk_cell BK145.out 0).trans rfl
           have hcz28_1 : wc.cell? ⟨gb145, 1, none⟩ = some (.int .i64 0) := (blk_cell BK145.out 1).trans rfl
           have hcz28_2 : wc.cell? ⟨gb145, 2, none⟩ = some (.int .i64 0) := (blk_cell BK145.out 2).trans rfl
           have hcz28_3 : wc.cell? ⟨gb145, 3, none⟩ = some (.int .i64 0) := (blk_cell BK145.out 3).trans rfl
           have hcz28_4 : wc.cell? ⟨gb145, 4, none⟩ = some (.int .i64 0) := (blk_cell BK145.out 4).trans rfl
           have hcz28_5 : wc.cell? ⟨gb145, 5, none⟩ = some (.int .i64 0) := (blk_cell BK145.out 5).trans rfl
           have hcz28_6 : wc.cell? ⟨gb145, 6, none⟩ = some (.int .i64 0) := (blk_cell BK145.out 6).trans rfl
           have hcz28_7 : wc.cell? ⟨gb145, 7, none⟩ = some (.string (⟨#[]⟩ : ByteArray)) := (blk_cell BK145.out 7).trans rfl
           have hfz28_0 := blk_frozen BK145.out 0
           have hfz28_1 := blk_frozen BK145.out 1
           have hfz28_2 := blk_frozen BK145.out 2
           have hfz28_3 := blk_frozen BK145.out 3
           have hfz28_4 := blk_frozen BK145.out 4
           have hfz28_5 := blk_frozen BK145.out 5
           have hfz28_6 := blk_frozen BK145.out 6
           have hfz28_7 := blk_frozen BK145.out 7
           have hcz29_0 : wc.cell? ⟨gb144, 0, none⟩ = some (.int .i64 x145000_15) := (blk_cell BK144.out 0).trans rfl
           have hcz29_1 : wc.cell? ⟨gb144, 1, none⟩ = some (.int .i64 x145001_15) := (blk_cell BK144.out 1).trans rfl
           have hcz29_2 : wc.cell? ⟨gb144, 2, none⟩ = some (.int .i64 x145002_15) := (blk_cell BK144.out 2).trans rfl
           have hcz29_3 : wc.cell? ⟨gb144, 3, none⟩ = some (.int .i64 x145003_15) := (blk_cell BK144.out 3).trans rfl
           have hcz29_4 : wc.cell? ⟨gb144, 4, none⟩ = some (.int .i64 x145004_15) := (blk_cell BK144.out 4).trans rfl
           have hcz29_5 : wc.cell? ⟨gb144, 5, none⟩ = some (.int .i64 x145005_15) := (blk_cell BK144.out 5).trans rfl
           have hcz29_6 : wc.cell? ⟨gb144, 6, none⟩ = some (.int .i64 x145006_15) := (blk_cell BK144.out 6).trans rfl
           have hcz29_7 : wc.cell? ⟨gb144, 7, none⟩ = some (.string x145007_15) := (blk_cell BK144.out 7).trans rfl
           have hfz29_0 := blk_frozen BK144.out 0
           have hfz29_1 := blk_frozen BK144.out 1
           have hfz29_2 := blk_frozen BK144.out 2
           have hfz29_3 := blk_frozen BK144.out 3
           have hfz29_4 := blk_frozen BK144.out 4
           have hfz29_5 := blk_frozen BK144.out 5
           have hfz29_6 := blk_frozen BK144.out 6
           have hfz29_7 := blk_frozen BK144.out 7
           go_wp2
           refine bodyPost_ret (results_ct rfl _ _ gb144 32 #[.int .i64 0, .int .i64 0, .int .i64 0, .int .i64 0, .int .i64 0, .int .i64 0, .int .i64 0, .string (⟨#[]⟩ : ByteArray)] (0, 0) _ rfl (by (with_reducible repeat (first | refine bA ?_ _ | refine bB ?_ | refine bC ?_ _)); refine bH (cs := #[.int .i64 0, .int .i64 0, .int .i64 0, .int .i64 0, .int .i64 0, .int .i64 0, .int .i64 0, .string x145007_15]) ?_ 7 _ rfl; (with_reducible repeat (first | refine bA ?_ _ | refine bB ?_ | refine bC ?_ _)); refine bH (cs := #[.int .i64 0, .int .i64 0, .int .i64 0, .int .i64 0, .int .i64 0, .int .i64 0, .int .i64 x145006_15, .string x145007_15]) ?_ 6 _ rfl; (with_reducible repeat (first | refine bA ?_ _ | refine bB ?_ | refine bC ?_ _)); refine bH (cs := #[.int .i64 0, .int .i64 0, .int .i64 0, .int .i64 0, .int .i64 0, .int .i64 x145005_15, .int .i64 x145006_15, .string x145007_15]) ?_ 5 _ rfl; (with_reducible repeat (first | refine bA ?_ _ | refine bB ?_ | refine bC ?_ _)); refine bH (cs := #[.int .i64 0, .int .i64 0, .int .i64 0, .int .i64 0, .int .i64 x145004_15, .int .i64 x145005_15, .int .i64 x145006_15, .string x145007_15]) ?_ 4 _ rfl; (with_reducible repeat (first | refine bA ?_ _ | refine bB ?_ | refine bC ?_ _)); refine bH (cs := #[.int .i64 0, .int .i64 0, .int .i64 0, .int .i64 x145003_15, .int .i64 x145004_15, .int .i64 x145005_15, .int .i64 x145006_15, .string x145007_15]) ?_ 3 _ rfl; (with_reducible repeat (first | refine bA ?_ _ | refine bB ?_ | refine bC ?_ _)); refine bH (cs := #[.int .i64 0, .int .i64 0, .int .i64 x145002_15, .int .i64 x145003_15, .int .i64 x145004_15, .int .i64 x145005_15, .int .i64 x145006_15, .string x145007_15]) ?_ 2 _ rfl; (with_reducible repeat (first | refine bA ?_ _ | refine bB ?_ | refine bC ?_ _)); refine bH (cs := #[.int .i64 0, .int .i64 x145001_15, .int .i64 x145002_15, .int .i64 x145003_15, .int .i64 x145004_15, .int .i64 x145005_15, .int .i64 x145006_15, .string x145007_15]) ?_ 1 _ rfl; (with_reducible repeat (first | refine bA ?_ _ | refine bB ?_ | refine bC ?_ _)); refine bH (cs := #[.int .i64 x145000_15, .int .i64 x145001_15, .int .i64 x145002_15, .int .i64 x145003_15, .int .i64 x145004_15, .int .i64 x145005_15, .int .i64 x145006_15, .string x145007_15]) ?_ 0 _ rfl; (with_reducible repeat (first | refine bA ?_ _ | refine bB ?_ | refine bC ?_ _)); exact BK144.out) Try.underlying32 rfl (by kernel_rfl)) rfl ?_
           exact ⟨by first | rfl | (simp only [← hji11]; first | rfl | (simp [errW_none, errW_some] <;> rfl)) | (simp [*, errW_none, errW_some] <;> rfl), by repeat (first | (with_reducible first | exact HB.out | apply bE | apply bD | apply bF | refine below_set ?_ GE144.out | refine below_set ?_ GE145.out) | exact HB.out)⟩
         case rest =>
          clear HC25
          try clear c1
          try clear p1
          try clear q1
          try clear hx1
          try clear qi1
          try clear c2
          try clear p2
          try clear c4
          try clear c5
          try clear p6
          try clear c7
          try clear c7b0
          try clear c7b1
          try clear c8
          try clear c12
          try clear c12b0
          try clear c12b1
          try clear c13
          try clear c13b0
          try clear c13b1
          try clear p14
          try clear q14
          try clear hx14
          try clear qi14
          try clear c15
          try clear c15b0
          try clear c17
          try clear c19
          try clear c19b0
          try clear c19b1
          try clear c20
          try clear c23
          try clear c23b0
          try clear c23b1
          try clear c26
          try clear c27
          try clear hcz10_0
          try clear hcz10_1
          try clear hcz10_2
          try clear hcz10_3
          try clear hcz10_4
          try clear hcz10_5
          try clear hcz10_6
          try clear hcz10_7
          try clear hcz21_0
          try clear hcz21_1
          try clear hcz21_2
          try clear hcz21_3
          try clear hcz21_4
          try clear hcz21_5
          try clear hcz21_6
          try clear hcz21_7
          try clear hcz22_0
          try clear hcz22_1
          try clear hcz22_2
          try clear hcz22_3
          try clear hcz22_4
          try clear hcz22_5
          try clear hcz22_6
          try clear hcz22_7
          try clear hcz28_0
          try clear hcz28_1
          try clear hcz28_2
          try clear hcz28_3
          try clear hcz28_4
          try clear hcz28_5
          try clear hcz28_6
          try clear hcz28_7
          try clear hcz29_0
          try clear hcz29_1
          try clear hcz29_2
          try clear hcz29_3
          try clear hcz29_4
          try clear hcz29_5
          try clear hcz29_6
          try clear hcz29_7
          try clear hcz6_0
          try clear hcz6_1
          try clear hcz6_2
          try clear hcz6_3
          try clear hcz6_4
          try clear hcz6_5
          try clear hcz6_6
          try clear hcz6_7
          try clear hcz9_0
          try clear hcz9_1
          try clear hcz9_2
          try clear hcz9_3
          try clear hcz9_4
          try clear hcz9_5
          try clear hcz9_6
          try clear hcz9_7
          try clear hfz10_0
          try clear hfz10_1
          try clear hfz10_2
          try clear hfz10_3
          try clear hfz10_4
          try clear hfz10_5
          try clear hfz10_6
          try clear hfz10_7
          try clear hfz21_0
          try clear hfz21_1
          try clear hfz21_2
          try clear hfz21_3
          try clear hfz21_4
          try clear hfz21_5
          try clear hfz21_6
          try clear hfz21_7
          try clear hfz22_0
          try clear hfz22_1
          try clear hfz22_2
          try clear hfz22_3
          try clear hfz22_4
          try clear hfz22_5
          try clear hfz22_6
          try clear hfz22_7
          try clear hfz28_0
          try clear hfz28_1
          try clear hfz28_2
          try clear hfz28_3
          try clear hfz28_4
          try clear hfz28_5
          try clear hfz28_6
          try clear hfz28_7
          try clear hfz29_0
          try clear hfz29_1
          try clear hfz29_2
          try clear hfz29_3
          try clear hfz29_4
          try clear hfz29_5
          try clear hfz29_6
          try clear hfz29_7
          try clear hfz6_0
          try clear hfz6_1
          try clear hfz6_2
          try clear hfz6_3
          try clear hfz6_4
          try clear hfz6_5
          try clear hfz6_6
          try clear hfz6_7
          try clear hfz9_0
          try clear hfz9_1
          try clear hfz9_2
          try clear hfz9_3
          try clear hfz9_4
          try clear hfz9_5
          try clear hfz9_6
          try clear hfz9_7
          try clear hx148_0
          try clear hx149_0
          try clear p1
          try clear p14
          try clear p148
          try clear p149
          try clear p2
          try clear p6
          try clear q1
          try clear q14
          try clear q148
          try clear q149
          obtain ⟨kq, x145000_24, x145001_24, x145002_24, x145003_24, x145004_24, x145005_24, x145006_24, x145007_24, HA, HJ24, BK144, BK145, HB⟩ := hcut
          cases kq with
          | zero => exact absurd HA.out (by simp [spec_Unpack.j2])
          | succ kj24 =>
           have H := HA.out
           clear HA
           simp only [spec_Unpack.j2] at H
           obtain ⟨y151, hy151⟩ : ∃ y_ : List Int, y_ = (([0, 3, 5, 3] : List Int)) := ⟨_, rfl⟩
           replace H : (if 0 ≤ (wrap64 (rd yy17 0)) then (if (wrap64 (rd yy17 0)) < (y151.length : Int) then (spec_Unpack.l0 kj24 yy17 (wrap64 (rd yy17 0)) (rd y151 (wrap64 (rd yy17 0))) (([] : List Int)) 1 0 0 0 0 0 0 0 0 (⟨#[]⟩ : ByteArray)) else (none)) else (none)) = some (r1, r2, r3, r4, r5, r6, r7, r8, r9) := by first | (rw [hy151]; with_reducible exact H) | (have H2_ := (Option.bind_some _ _).symm.trans H; rw [hy151]; with_reducible exact H2_) | (have H2_ := (Option.bind_some _ _).symm.trans H; with_reducible exact H2_) | with_reducible exact H | (rw [hy151]; exact H) | exact H
           have Ny151 := zM hy151
           clear hy151
           obtain ⟨ji30, hji30⟩ : ∃ j_ : Int, (wrap64 (rd yy17 0)) = j_ := ⟨_, rfl⟩
           replace H : (if 0 ≤ (ji30) then (if (ji30) < (y151.length : Int) then (spec_Unpack.l0 kj24 yy17 (ji30) (rd y151 (ji30)) (([] : List Int)) 1 0 0 0 0 0 0 0 0 (⟨#[]⟩ : ByteArray)) else (none)) else (none)) = some (r1, r2, r3, r4, r5, r6, r7, r8, r9) := by first | (rw [hji30] at H; exact H) | (simp only [hji30] at H ⊢; exact H)
           (try rw [hji30] at hji11)
           (try rw [hji30] at hji11w)
           have hji30w : (IntKind.i64.wrap (rd yy17 0)) = ji30 := (i64_w _).trans hji30
           by_cases c31 : 0 ≤ (ji30)
           ·rw [if_pos c31] at H
            have c31b0 : decide (0 ≤ (ji30)) = true := decide_eq_true c31
            clear c31
            by_cases c32 : (ji30) < (y151.length : Int)
            ·rw [if_pos c32] at H
             have c32b0 : decide ((ji30) < (y151.length : Int)) = true := decide_eq_true c32
             clear c32
             obtain ⟨y155, hy155⟩ : ∃ y_ : List Int, y_ = (([] : List Int)) := ⟨_, rfl⟩
             replace H : (spec_Unpack.l0 kj24 yy17 (ji30) (rd y151 (ji30)) y155 1 0 0 0 0 0 0 0 0 (⟨#[]⟩ : ByteArray)) = some (r1, r2, r3, r4, r5, r6, r7, r8, r9) := by first | (rw [hy155]; with_reducible exact H) | (have H2_ := (Option.bind_some _ _).symm.trans H; rw [hy155]; with_reducible exact H2_) | (have H2_ := (Option.bind_some _ _).symm.trans H; with_reducible exact H2_) | with_reducible exact H | (rw [hy155]; exact H) | exact H
             have Ny155 := zM hy155
             clear hy155
             have H' := zM H
             clear H
             go_wp2_with (first | ((with_reducible refine gate_dst (N := 44) rfl ?_); refine Kd.R_lit (Kd.int .i64) _ 3 ?hg (N := 44) ?hd (xs := ([0, 3, 5, 3] : List Int)) (inner := [.int .i64 0, .int .i64 3, .int .i64 5, .int .i64 3]) (ok := fun _ => True) (okp := fun _ => True) ?hr ?hp (fun _ hk => hk) trivial (Below.refl _ _) (Nat.le_refl _) (by simp) ?_; (case hd => rfl); (case hg => rfl); (case hr => first | (go_simp; done) | (go_simp; rfl)); (case hp => exact (Reps.one (show Kd.M (Kd.int .i64) _ _ _ 0 [.int .i64 0] from rfl) (Reps.one (show Kd.M (Kd.int .i64) _ _ _ 3 [.int .i64 3] from rfl) (Reps.one (show Kd.M (Kd.int .i64) _ _ _ 5 [.int .i64 5] from rfl) (Reps.one (show Kd.M (Kd.int .i64) _ _ _ 3 [.int .i64 3] from rfl) (Reps.none _ _)))))); intro v152 w33 ho34 hb hg_ hnew_; clear hg_ hnew_; (first | rw [← Ny151.out] at ho34 | (simp only [Int.reduceToNat] at ho34; rw [← Ny151.out] at ho34)); have n0_ := zM (Kd.R_lower ho34 (below_size (by repeat (first | (with_reducible first | exact HB.out | apply bE | apply bD | apply bF | refine below_set ?_ GE144.out | refine below_set ?_ GE145.out) | exact HB.out)))); have n1_ := zM (blk_below (g := gb144) (o := .cells #[.int .i64 x145000_24, .int .i64 x145001_24, .int .i64 x145002_24, .int .i64 x145003_24, .int .i64 x145004_24, .int .i64 x145005_24, .int .i64 x145006_24, .string x145007_24] 32 (0, 0)) (by (with_reducible repeat (first | refine bA ?_ _ | refine bB ?_ | refine bC ?_ _)); exact BK144.out) hb); have n2_ := zM (blk_below (g := gb145) (o := .cells #[.int .i64 0, .int .i64 0, .int .i64 0, .int .i64 0, .int .i64 0, .int .i64 0, .int .i64 0, .string (⟨#[]⟩ : ByteArray)] 32 (0, 0)) (by (with_reducible repeat (first | refine bA ?_ _ | refine bB ?_ | refine bC ?_ _)); exact BK145.out) hb); have n3_ := zM (bG (by repeat (first | (with_reducible first | exact HB.out | apply bE | apply bD | apply bF | refine below_set ?_ GE144.out | refine below_set ?_ GE145.out) | exact HB.out)) hb); clear BK144; clear BK145; clear HB; have HO153 := n0_; have BK144 := n1_; have BK145 := n2_; have HB := n3_; clear n0_ n1_ n2_ n3_; clear hb ho34; obtain ⟨Ao35, co35, eo35⟩ := Kd.R_slice HO153.out; subst eo35; have p154 : 0 ≤ ((ji30) : Int) := of_decide_eq_true (by first | (with_reducible assumption) | assumption); have q154 : (ji30) < (y151.length : Int) := of_decide_eq_true (by first | (with_reducible assumption) | assumption); obtain ⟨ad154, e154, hx154_0⟩ := Kd.at_int (Kd.R_reads' HO153.out).2.2 (ji30) p154 q154; cases e154; replace p154 := eq_true p154; replace q154 := eq_true q154) | ((with_reducible refine gate_dst (N := 48) rfl ?_); refine Kd.R_lit (Kd.int .i64) _ 3 ?hg (N := 48) ?hd (xs := ([] : List Int)) (inner := []) (ok := fun _ => True) (okp := fun _ => True) ?hr ?hp (fun _ hk => hk) trivial (Below.refl _ _) (Nat.le_refl _) (by simp) ?_; (case hd => rfl); (case hg => rfl); (case hr => first | (go_simp; done) | (go_simp; rfl)); (case hp => exact (Reps.none _ _)); intro v156 w36 ho37 hb hg_ hnew_; clear hg_ hnew_; (first | rw [← Ny155.out] at ho37 | (simp only [Int.reduceToNat] at ho37; rw [← Ny155.out] at ho37)); have n0_ := zM (Kd.R_elder' (by (with_reducible repeat (first | apply Kd.R_alloc | apply Kd.R_drewN | apply Kd.R_drew)); exact HO153.out) (Kd.R_base ho37) hb); have n1_ := zM (Kd.R_lower (Kd.R_new' ho37 (Kd.R_lt (by (with_reducible repeat (first | apply Kd.R_alloc | apply Kd.R_drewN | apply Kd.R_drew)); exact HO153.out))) (below_size (by repeat (first | (with_reducible first | exact HB.out | apply bE | apply bD | apply bF | refine below_set ?_ GE144.out | refine below_set ?_ GE145.out) | exact HB.out)))); have n2_ := zM (blk_below (g := gb144) (o := .cells #[.int .i64 x145000_24, .int .i64 x145001_24, .int .i64 x145002_24, .int .i64 x145003_24, .int .i64 x145004_24, .int .i64 x145005_24, .int .i64 x145006_24, .string x145007_24] 32 (0, 0)) (by (with_reducible repeat (first | refine bA ?_ _ | refine bB ?_ | refine bC ?_ _)); exact BK144.out) hb); have n3_ := zM (blk_below (g := gb145) (o := .cells #[.int .i64 0, .int .i64 0, .int .i64 0, .int .i64 0, .int .i64 0, .int .i64 0, .int .i64 0, .string (⟨#[]⟩ : ByteArray)] 32 (0, 0)) (by (with_reducible repeat (first | refine bA ?_ _ | refine bB ?_ | refine bC ?_ _)); exact BK145.out) hb); have n4_ := zM (bG (by repeat (first | (with_reducible first | exact HB.out | apply bE | apply bD | apply bF | refine below_set ?_ GE144.out | refine below_set ?_ GE145.out) | exact HB.out)) hb); clear HO153; clear BK144; clear BK145; clear HB; have HO153 := n0_; have HO157 := n1_; have BK144 := n2_; have BK145 := n3_; have HB := n4_; clear n0_ n1_ n2_ n3_ n4_; clear hb ho37))
             go_loopg [8, 9, 10] kj24 (fun kq v8 v9 v10 w' => ∃ (x8_4 : List Int) (x9_4 : Int) (x10_4 : Int) (x145000_4 : Int) (x145001_4 : Int) (x145002_4 : Int) (x145003_4 : Int) (x145004_4 : Int) (x145005_4 : Int) (x145006_4 : Int) (x145007_4 : ByteArray), v9 = .int .i64 x9_4 ∧ v10 = .int .i64 x10_4 ∧ Aside0 (spec_Unpack.l0 kq yy17 (ji30) (rd y151 (ji30)) x8_4 x9_4 x10_4 0 0 0 0 0 0 0 (⟨#[]⟩ : ByteArray) = some (r1, r2, r3, r4, r5, r6, r7, r8, r9)) ∧ Aside0 (kq ≤ kj24) ∧ Aside0 (Kd.R (Kd.int .i64) 3 w' w.heap.size (fun _ => True) v8 x8_4) ∧ Aside0 (w'.heap[gb144]? = some (.cells #[.int .i64 x145000_4, .int .i64 x145001_4, .int .i64 x145002_4, .int .i64 x145003_4, .int .i64 x145004_4, .int .i64 x145005_4, .int .i64 x145006_4, .string x145007_4] 32 (0, 0))) ∧ Aside0 (w'.heap[gb145]? = some (.cells #[.int .i64 0, .int .i64 0, .int .i64 0, .int .i64 0, .int .i64 0, .int .i64 0, .int .i64 0, .string (⟨#[]⟩ : ByteArray)] 32 (0, 0))) ∧ Aside0 (Below w.heap.size w w'))
             case atStart => exact ⟨(y155), (1), (0), (x145000_24), (x145001_24), (x145002_24), (x145003_24), (x145004_24), (x145005_24), (x145006_24), (x145007_24), (by first | rfl | (simp; done) | (simp [*]; done)), (by first | rfl | (simp; done) | (simp [*]; done)), H', ⟨Nat.le_refl _⟩, ⟨by (with_reducible repeat (first | apply Kd.R_alloc | apply Kd.R_drewN | apply Kd.R_drew)); exact Kd.R_mono HO157.out (fun _ hk => trivial)⟩, ⟨by (with_reducible repeat (first | refine bA ?_ _ | refine bB ?_ | refine bC ?_ _)); exact BK144.out⟩, ⟨by (with_reducible repeat (first | refine bA ?_ _ | refine bB ?_ | refine bC ?_ _)); exact BK145.out⟩, ⟨by repeat (first | (with_reducible first | exact HB.out | apply bE | apply bD | apply bF | refine below_set ?_ GE144.out | refine below_set ?_ GE145.out) | exact HB.out)⟩⟩
             case round =>
              clear H'
              try clear c1
              try clear p1
              try clear q1
              try clear hx1
              try clear qi1
              try clear c2
              try clear p2
              try clear c3
              try clear c4
              try clear c5
              try clear p6
              try clear c7
              try clear c7b0
              try clear c7b1
              try clear c8
              try clear c12
              try clear c12b0
              try clear c12b1
              try clear c13
              try clear c13b0
              try clear c13b1
              try clear p14
              try clear q14
              try clear hx14
              try clear qi14
              try clear c15
              try clear c15b0
              try clear p15
              try clear q15
              try clear hx15
              try clear c17
              try clear c19
              try clear c19b0
              try clear c19b1
              try clear c20
              try clear c23
              try clear c23b0
              try clear c23b1
              try clear c26
              try clear c27
              try clear c31
              try clear c31b0
              try clear c32
              try clear c32b0
              try clear hcz10_0
              try clear hcz10_1
              try clear hcz10_2
              try clear hcz10_3
              try clear hcz10_4
              try clear hcz10_5
              try clear hcz10_6
              try clear hcz10_7
              try clear hcz21_0
              try clear hcz21_1
              try clear hcz21_2
              try clear hcz21_3
              try clear hcz21_4
              try clear hcz21_5
              try clear hcz21_6
              try clear hcz21_7
              try clear hcz22_0
              try clear hcz22_1
              try clear hcz22_2
              try clear hcz22_3
              try clear hcz22_4
              try clear hcz22_5
              try clear hcz22_6
              try clear hcz22_7
              try clear hcz28_0
              try clear hcz28_1
              try clear hcz28_2
              try clear hcz28_3
              try clear hcz28_4
              try clear hcz28_5
              try clear hcz28_6
              try clear hcz28_7
              try clear hcz29_0
              try clear hcz29_1
              try clear hcz29_2
              try clear hcz29_3
              try clear hcz29_4
              try clear hcz29_5
              try clear hcz29_6
              try clear hcz29_7
              try clear hcz6_0
              try clear hcz6_1
              try clear hcz6_2
              try clear hcz6_3
              try clear hcz6_4
              try clear hcz6_5
              try clear hcz6_6
              try clear hcz6_7
              try clear hcz9_0
              try clear hcz9_1
              try clear hcz9_2
              try clear hcz9_3
              try clear hcz9_4
              try clear hcz9_5
              try clear hcz9_6
              try clear hcz9_7
              try clear hfz10_0
              try clear hfz10_1
              try clear hfz10_2
              try clear hfz10_3
              try clear hfz10_4
              try clear hfz10_5
              try clear hfz10_6
              try clear hfz10_7
              try clear hfz21_0
              try clear hfz21_1
              try clear hfz21_2
              try clear hfz21_3
              try clear hfz21_4
              try clear hfz21_5
              try clear hfz21_6
              try clear hfz21_7
              try clear hfz22_0
              try clear hfz22_1
              try clear hfz22_2
              try clear hfz22_3
              try clear hfz22_4
              try clear hfz22_5
              try clear hfz22_6
              try clear hfz22_7
              try clear hfz28_0
              try clear hfz28_1
              try clear hfz28_2
              try clear hfz28_3
              try clear hfz28_4
              try clear hfz28_5
              try clear hfz28_6
              try clear hfz28_7
              try clear hfz29_0
              try clear hfz29_1
              try clear hfz29_2
              try clear hfz29_3
              try clear hfz29_4
              try clear hfz29_5
              try clear hfz29_6
              try clear hfz29_7
              try clear hfz6_0
              try clear hfz6_1
              try clear hfz6_2
              try clear hfz6_3
              try clear hfz6_4
              try clear hfz6_5
              try clear hfz6_6
              try clear hfz6_7
              try clear hfz9_0
              try clear hfz9_1
              try clear hfz9_2
              try clear hfz9_3
              try clear hfz9_4
              try clear hfz9_5
              try clear hfz9_6
              try clear hfz9_7
              try clear hx148_0
              try clear hx149_0
              try clear hx154_0
              try clear p1
              try clear p14
              try clear p148
              try clear p149
              try clear p154
              try clear p2
              try clear p6
              try clear q1
              try clear q14
              try clear q148
              try clear q149
              try clear q154
              obtain ⟨x8_4, x9_4, x10_4, x145000_4, x145001_4, x145002_4, x145003_4, x145004_4, x145005_4, x145006_4, x145007_4, rfl, rfl, HA, HK4, HO_8, BK144, BK145, HB⟩ := hrel
              cases gk with
              | zero => exact absurd HA.out (by simp [spec_Unpack.l0])
              | succ k4 =>
               have H := HA.out
               clear HA
               simp only [spec_Unpack.l0] at H
               by_cases c38 : x10_4 < (rd y151 (ji30))
               ·rw [if_pos c38] at H
                have c38b0 : decide (x10_4 < (rd y151 (ji30))) = true := decide_eq_true c38
                clear c38
                replace H := zO H
                obtain ⟨⟨t158, t159, t160⟩, A390, H⟩ := H
                replace H : (if t160 = true then (if t158 > 4000000000000 then (some (0, 0, 0, 0, 0, 0, 0, (⟨#[]⟩ : ByteArray), 4)) else (if x8_4.length < 17592186044416 then (spec_Unpack.l0 k4 yy17 (ji30) (rd y151 (ji30)) (x8_4 ++ [t158]) t159 (wrap64 (x10_4 + 1)) 0 0 0 0 0 0 0 (⟨#[]⟩ : ByteArray)) else (none))) else (some (0, 0, 0, 0, 0, 0, 0, (⟨#[]⟩ : ByteArray), 4))) = some (r1, r2, r3, r4, r5, r6, r7, r8, r9) := H
                have A39 := zM A390
                clear A390
                by_cases c40 : t160 = true
                ·subst c40
                 have H1 : (if t158 > 4000000000000 then (some (0, 0, 0, 0, 0, 0, 0, (⟨#[]⟩ : ByteArray), 4)) else (if x8_4.length < 17592186044416 then (spec_Unpack.l0 k4 yy17 (ji30) (rd y151 (ji30)) (x8_4 ++ [t158]) t159 (wrap64 (x10_4 + 1)) 0 0 0 0 0 0 0 (⟨#[]⟩ : ByteArray)) else (none))) = some (r1, r2, r3, r4, r5, r6, r7, r8, r9) := by rw [if_pos rfl] at H; exact H
                 clear H
                 have H := H1
                 clear H1
                 by_cases c41 : t158 > 4000000000000
                 ·rw [if_pos c41] at H
                  have c41b0 : decide (4000000000000 < t158) = true := decide_eq_true c41
                  clear c41
                  simp only [zI, zJ] at H
                  obtain ⟨rfl, rfl, rfl, rfl, rfl, rfl, rfl, rfl, rfl⟩ := H
                  go_wp2_with (first | ((with_reducible refine gate_callee (f := 44) rfl ?_); refine goesL_ (some 57) rfl rfl Try.func44 (by kernel_rfl) rfl #[.slice (some ad148) yy17.length c0, .int .i64 x9_4] rfl (by (try simp only [List.map_toArray, List.map_cons, List.map_nil]); first | done | (rw [show yy17.length = (ji11).toNat from (by rw [List.length_take]; have h_ : ((ji11) : Int) ≤ (l0.length : Int) := (by first | exact HZ_ji11_l0.out | exact of_decide_eq_true (by first | (with_reducible assumption) | assumption)); omega)] <;> rfl) | (simp only [hji11]; rfl) | rfl | (simp only [List.length_drop, List.length_take]; rfl)) ?_; (with_reducible refine (spec_GetNum.calls k4 _ _ yy17 x9_4 t158 t159 true _ ?side1 ?side2 A39.out).mono ?_); (case side1 => repeat (first | exact (Kd.C_below HR146.out HB.out) | (with_reducible refine Kd.C_alloc ?_ _) | (with_reducible refine Kd.C_drewN ?_ _) | (with_reducible refine Kd.C_drew ?_))); (case side2 => exact HC146.out); rintro e w' ⟨rfl, ⟨nd, rfl⟩⟩; refine ⟨_, rfl, ?_⟩; (try (rw [drewN_self wr]; generalize hq_ : World.drewN wr _ = wr; have n0_ : Aside0 (Kd.R (Kd.int .i64) 3 wr w.heap.size (fun k_ => True) u8 x8_4) := ⟨by rw [← hq_]; exact (by (with_reducible repeat (first | apply Kd.R_alloc | apply Kd.R_drewN | apply Kd.R_drew)); exact HO_8.out)⟩; have n1_ : Aside0 (wr.heap[gb144]? = some (.cells #[.int .i64 x145000_4, .int .i64 x145001_4, .int .i64 x145002_4, .int .i64 x145003_4, .int .i64 x145004_4, .int .i64 x145005_4, .int .i64 x145006_4, .string x145007_4] 32 (0, 0))) := ⟨by rw [← hq_]; exact (by (with_reducible repeat (first | refine bA ?_ _ | refine bB ?_ | refine bC ?_ _)); exact BK144.out)⟩; have n2_ : Aside0 (wr.heap[gb145]? = some (.cells #[.int .i64 0, .int .i64 0, .int .i64 0, .int .i64 0, .int .i64 0, .int .i64 0, .int .i64 0, .string (⟨#[]⟩ : ByteArray)] 32 (0, 0))) := ⟨by rw [← hq_]; exact (by (with_reducible repeat (first | refine bA ?_ _ | refine bB ?_ | refine bC ?_ _)); exact BK145.out)⟩; have n3_ : Aside0 (Below w.heap.size w wr) := ⟨by rw [← hq_]; exact (by repeat (first | (with_reducible first | exact HB.out | apply bE | apply bD | apply bF | refine below_set ?_ GE144.out | refine below_set ?_ GE145.out) | exact HB.out))⟩; clear HO_8 BK144 BK145 HB hq_; have HO_8 := n0_; have BK144 := n1_; have BK145 := n2_; have HB := n3_; clear n0_ n1_ n2_ n3_)); have hnb42 := NB145_144.out; have hnc42 := NB144_145.out; have hcz43_0 : wr.cell? ⟨gb145, 0, none⟩ = some (.int .i64 0) := (blk_cell BK145.out 0).trans rfl; have hcz43_1 : wr.cell? ⟨gb145, 1, none⟩ = some (.int .i64 0) := (blk_cell BK145.out 1).trans rfl; have hcz43_2 : wr.cell? ⟨gb145, 2, none⟩ = some (.int .i64 0) := (blk_cell BK145.out 2).trans rfl; have hcz43_3 : wr.cell? ⟨gb145, 3, none⟩ = some (.int .i64 0) := (blk_cell BK145.out 3).trans rfl; have hcz43_4 : wr.cell? ⟨gb145, 4, none⟩ = some (.int .i64 0) := (blk_cell BK145.out 4).trans rfl; have hcz43_5 : wr.cell? ⟨gb145, 5, none⟩ = some (.int .i64 0) := (blk_cell BK145.out 5).trans rfl; have hcz43_6 : wr.cell? ⟨gb145, 6, none⟩ = some (.int .i64 0) := (blk_cell BK145.out 6).trans rfl; have hcz43_7 : wr.cell? ⟨gb145, 7, none⟩ = some (.string (⟨#[]⟩ : ByteArray)) := (blk_cell BK145.out 7).trans rfl; have hfz43_0 := blk_frozen BK145.out 0; have hfz43_1 := blk_frozen BK145.out 1; have hfz43_2 := blk_frozen BK145.out 2; have hfz43_3 := blk_frozen BK145.out 3; have hfz43_4 := blk_frozen BK145.out 4; have hfz43_5 := blk_frozen BK145.out 5; have hfz43_6 := blk_frozen BK145.out 6; have hfz43_7 := blk_frozen BK145.out 7; have hcz44_0 : wr.cell? ⟨gb144, 0, none⟩ = some (.int .i64 x145000_4) := (blk_cell BK144.out 0).trans rfl; have hcz44_1 : wr.cell? ⟨gb144, 1, none⟩ = some (.int .i64 x145001_4) := (blk_cell BK144.out 1).trans rfl; have hcz44_2 : wr.cell? ⟨gb144, 2, none⟩ = some (.int .i64 x145002_4) := (blk_cell BK144.out 2).trans rfl; have hcz44_3 : wr.cell? ⟨gb144, 3, none⟩ = some (.int .i64 x145003_4) := (blk_cell BK144.out 3).trans rfl; have hcz44_4 : wr.cell? ⟨gb144, 4, none⟩ = some (.int .i64 x145004_4) := (blk_cell BK144.out 4).trans rfl; have hcz44_5 : wr.cell? ⟨gb144, 5, none⟩ = some (.int .i64 x145005_4) := (blk_cell BK144.out 5).trans rfl; have hcz44_6 : wr.cell? ⟨gb144, 6, none⟩ = some (.int .i64 x145006_4) := (blk_cell BK144.out 6).trans rfl; have hcz44_7 : wr.cell? ⟨gb144, 7, none⟩ = some (.string x145007_4) := (blk_cell BK144.out 7).trans rfl; have hfz44_0 := blk_frozen BK144.out 0; have hfz44_1 := blk_frozen BK144.out 1; have hfz44_2 := blk_frozen BK144.out 2; have hfz44_3 := blk_frozen BK144.out 3; have hfz44_4 := blk_frozen BK144.out 4; have hfz44_5 := blk_frozen BK144.out 5; have hfz44_6 := blk_frozen BK144.out 6; have hfz44_7 := blk_frozen BK144.out 7))
                  refine bodyPost_ret (results_ct rfl _ _ gb144 32 #[.int .i64 0, .int .i64 0, .int .i64 0, .int .i64 0, .int .i64 0, .int .i64 0, .int .i64 0, .string (⟨#[]⟩ : ByteArray)] (0, 0) _ rfl (by (with_reducible repeat (first | refine bA ?_ _ | refine bB ?_ | refine bC ?_ _)); refine bH (cs := #[.int .i64 0, .int .i64 0, .int .i64 0, .int .i64 0, .int .i64 0, .int .i64 0, .int .i64 0, .string x145007_4]) ?_ 7 _ rfl; (with_reducible repeat (first | refine bA ?_ _ | refine bB ?_ | refine bC ?_ _)); refine bH (cs := #[.int .i64 0, .int .i64 0, .int .i64 0, .int .i64 0, .int .i64 0, .int .i64 0, .int .i64 x145006_4, .string x145007_4]) ?_ 6 _ rfl; (with_reducible repeat (first | refine bA ?_ _ | refine bB ?_ | refine bC ?_ _)); refine bH (cs := #[.int .i64 0, .int .i64 0, .int .i64 0, .int .i64 0, .int .i64 0, .int .i64 x145005_4, .int .i64 x145006_4, .string x145007_4]) ?_ 5 _ rfl; (with_reducible repeat (first | refine bA ?_ _ | refine bB ?_ | refine bC ?_ _)); refine bH (cs := #[.int .i64 0, .int .i64 0, .int .i64 0, .int .i64 0, .int .i64 x145004_4, .int .i64 x145005_4, .int .i64 x145006_4, .string x145007_4]) ?_ 4 _ rfl; (with_reducible repeat (first | refine bA ?_ _ | refine bB ?_ | refine bC ?_ _)); refine bH (cs := #[.int .i64 0, .int .i64 0, .int .i64 0, .int .i64 x145003_4, .int .i64 x145004_4, .int .i64 x145005_4, .int .i64 x145006_4, .string x145007_4]) ?_ 3 _ rfl; (with_reducible repeat (first | refine bA ?_ _ | refine bB ?_ | refine bC ?_ _)); refine bH (cs := #[.int .i64 0, .int .i64 0, .int .i64 x145002_4, .int .i64 x145003_4, .int .i64 x145004_4, .int .i64 x145005_4, .int .i64 x145006_4, .string x145007_4]) ?_ 2 _ rfl; (with_reducible repeat (first | refine bA ?_ _ | refine bB ?_ | refine bC ?_ _)); refine bH (cs := #[.int .i64 0, .int .i64 x145001_4, .int .i64 x145002_4, .int .i64 x145003_4, .int .i64 x145004_4, .int .i64 x145005_4, .int .i64 x145006_4, .string x145007_4]) ?_ 1 _ rfl; (with_reducible repeat (first | refine bA ?_ _ | refine bB ?_ | refine bC ?_ _)); refine bH (cs := #[.int .i64 x145000_4, .int .i64 x145001_4, .int .i64 x145002_4, .int .i64 x145003_4, .int .i64 x145004_4, .int .i64 x145005_4, .int .i64 x145006_4, .string x145007_4]) ?_ 0 _ rfl; (with_reducible repeat (first | refine bA ?_ _ | refine bB ?_ | refine bC ?_ _)); exact BK144.out) Try.underlying32 rfl (by kernel_rfl)) rfl ?_
                  exact ⟨by first | rfl | (simp only [← hji11, ← hji30]; first | rfl | (simp [errW_none, errW_some] <;> rfl)) | (simp [*, errW_none, errW_some] <;> rfl), by repeat (first | (with_reducible first | exact HB.out | apply bE | apply bD | apply bF | refine below_set ?_ GE144.out | refine below_set ?_ GE145.out) | exact HB.out)⟩
                 ·rw [if_neg c41] at H
                  have c41b0 : decide (4000000000000 < t158) = false := decide_eq_false c41
                  clear c41
                  by_cases c45 : x8_4.length < 17592186044416
                  ·rw [if_pos c45] at H
                   have LMc45 := zM c45
                   clear c45
                   obtain ⟨y161, hy161⟩ : ∃ y_ : List Int, y_ = (x8_4 ++ [t158]) := ⟨_, rfl⟩
                   replace H : (spec_Unpack.l0 k4 yy17 (ji30) (rd y151 (ji30)) y161 t159 (wrap64 (x10_4 + 1)) 0 0 0 0 0 0 0 (⟨#[]⟩ : ByteArray)) = some (r1, r2, r3, r4, r5, r6, r7, r8, r9) := by first | (rw [hy161]; with_reducible exact H) | (have H2_ := (Option.bind_some _ _).symm.trans H; rw [hy161]; with_reducible exact H2_) | (have H2_ := (Option.bind_some _ _).symm.trans H; with_reducible exact H2_) | with_reducible exact H | (rw [hy161]; exact H) | exact H
                   have Ny161 := zM hy161
                   clear hy161
                   have H' := zM H
                   clear H
                   go_wp2_with (first | ((with_reducible refine gate_callee (f := 44) rfl ?_); refine goesL_ (some 57) rfl rfl Try.func44 (by kernel_rfl) rfl #[.slice (some ad148) yy17.length c0, .int .i64 x9_4] rfl (by (try simp only [List.map_toArray, List.map_cons, List.map_nil]); first | done | (rw [show yy17.length = (ji11).toNat from (by rw [List.length_take]; have h_ : ((ji11) : Int) ≤ (l0.length : Int) := (by first | exact HZ_ji11_l0.out | exact of_decide_eq_true (by first | (with_reducible assumption) | assumption)); omega)] <;> rfl) | (simp only [hji11]; rfl) | rfl | (simp only [List.length_drop, List.length_take]; rfl)) ?_; (with_reducible refine (spec_GetNum.calls k4 _ _ yy17 x9_4 t158 t159 true _ ?side1 ?side2 A39.out).mono ?_); (case side1 => repeat (first | exact (Kd.C_below HR146.out HB.out) | (with_reducible refine Kd.C_alloc ?_ _) | (with_reducible refine Kd.C_drewN ?_ _) | (with_reducible refine Kd.C_drew ?_))); (case side2 => exact HC146.out); rintro e w' ⟨rfl, ⟨nd, rfl⟩⟩; refine ⟨_, rfl, ?_⟩) | ((with_reducible refine gate_builtin (b := .append) (xs := #[.tmp 68, .tmp 70]) rfl ?_); at_builtin; refine Kd.R_append (Kd.int .i64) (w0 := w) w.heap.size rfl (.tmp 68) (.tmp 70) 61 3 (.int .i64 0) 8 rfl Try.underlying61 info3 rfl (by decide) (by omega) u8 x8_4 t158 [.int .i64 t158] (fun _ => True) (fun _ => False) rfl rfl ?aP (fun _ hk => hk.elim) ?aF ?aO ?aB ?aS ?aL ?_; (case aP => exact rfl); (case aB => exact (by repeat (first | (with_reducible first | exact HB.out | apply bE | apply bD | apply bF | refine below_set ?_ GE144.out | refine below_set ?_ GE145.out) | exact HB.out))); (case aF => exact (fun _ _ => trivial)); (case aO => exact (by (with_reducible repeat (first | apply Kd.R_alloc | apply Kd.R_drewN | apply Kd.R_drew)); exact HO_8.out)); (case aS => exact (below_size (by repeat (first | (with_reducible first | exact HB.out | apply bE | apply bD | apply bF | refine below_set ?_ GE144.out | refine below_set ?_ GE145.out) | exact HB.out)))); (case aL => have := LMc45.out; omega); intro v162 w46 ho hb hg hat; rw [← Ny161.out] at ho; have n0_ := zM (blk_grown (g := gb144) (o := .cells #[.int .i64 x145000_4, .int .i64 x145001_4, .int .i64 x145002_4, .int .i64 x145003_4, .int .i64 x145004_4, .int .i64 x145005_4, .int .i64 x145006_4, .string x145007_4] 32 (0, 0)) (by (with_reducible repeat (first | refine bA ?_ _ | refine bB ?_ | refine bC ?_ _)); exact BK144.out) hg (Kd.R_ne HO_8.out BK144.out (by decide))); have n1_ := zM (blk_grown (g := gb145) (o := .cells #[.int .i64 0, .int .i64 0, .int .i64 0, .int .i64 0, .int .i64 0, .int .i64 0, .int .i64 0, .string (⟨#[]⟩ : ByteArray)] 32 (0, 0)) (by (with_reducible repeat (first | refine bA ?_ _ | refine bB ?_ | refine bC ?_ _)); exact BK145.out) hg (Kd.R_ne HO_8.out BK145.out (by decide))); have n2_ := zM (hb); have n3_ := zM (ho); clear BK144; clear BK145; clear HB; clear HO_8; have BK144 := n0_; have BK145 := n1_; have HB := n2_; have HO163 := n3_; clear n0_ n1_ n2_ n3_; clear ho hb hg hat))
                   go_roundg k4
                   case measure => have := HJ1.out; have := HJ15.out; have := HJ24.out; have := HK4.out; omega
                   case rel => exact ⟨(y161), (t159), (wrap64 (x10_4 + 1)), (x145000_4), (x145001_4), (x145002_4), (x145003_4), (x145004_4), (x145005_4), (x145006_4), (x145007_4), (by first | rfl | (simp; done) | (simp [*]; done)), (by first | rfl | (simp; done) | (simp [*]; done)), H', ⟨by have := HJ1.out; have := HJ15.out; have := HJ24.out; have := HK4.out; omega⟩, ⟨by (with_reducible repeat (first | apply Kd.R_alloc | apply Kd.R_drewN | apply Kd.R_drew)); exact HO163.out⟩, ⟨by (with_reducible repeat (first | refine bA ?_ _ | refine bB ?_ | refine bC ?_ _)); exact BK144.out⟩, ⟨by (with_reducible repeat (first | refine bA ?_ _ | refine bB ?_ | refine bC ?_ _)); exact BK145.out⟩, ⟨by repeat (first | (with_reducible first | exact HB.out | apply bE | apply bD | apply bF | refine below_set ?_ GE144.out | refine below_set ?_ GE145.out) | exact HB.out)⟩⟩
                  ·rw [if_neg c45] at H
                   exact absurd H (by simp)
                ·replace c40 := Bool.eq_false_iff.mpr c40
                 subst c40
                 have H1 : (some (0, 0, 0, 0, 0, 0, 0, (⟨#[]⟩ : ByteArray), 4)) = some (r1, r2, r3, r4, r5, r6, r7, r8, r9) := by rw [if_neg (show ¬ (false = true) by decide)] at H; exact H
                 clear H
                 have H := H1
                 clear H1
                 simp only [zI, zJ] at H
                 obtain ⟨rfl, rfl, rfl, rfl, rfl, rfl, rfl, rfl, rfl⟩ := H
                 go_wp2_with (first | ((with_reducible refine gate_callee (f := 44) rfl ?_); refine goesL_ (some 57) rfl rfl Try.func44 (by kernel_rfl) rfl #[.slice (some ad148) yy17.length c0, .int .i64 x9_4] rfl (by (try simp only [List.map_toArray, List.map_cons, List.map_nil]); first | done | (rw [show yy17.length = (ji11).toNat from (by rw [List.length_take]; have h_ : ((ji11) : Int) ≤ (l0.length : Int) := (by first | exact HZ_ji11_l0.out | exact of_decide_eq_true (by first | (with_reducible assumption) | assumption)); omega)] <;> rfl) | (simp only [hji11]; rfl) | rfl | (simp only [List.length_drop, List.length_take]; rfl)) ?_; (with_reducible refine (spec_GetNum.calls k4 _ _ yy17 x9_4 t158 t159 false _ ?side1 ?side2 A39.out).mono ?_); (case side1 => repeat (first | exact (Kd.C_below HR146.out HB.out) | (with_reducible refine Kd.C_alloc ?_ _) | (with_reducible refine Kd.C_drewN ?_ _) | (with_reducible refine Kd.C_drew ?_))); (case side2 => exact HC146.out); rintro e w' ⟨rfl, ⟨nd, rfl⟩⟩; refine ⟨_, rfl, ?_⟩; (try (rw [drewN_self wr]; generalize hq_ : World.drewN wr _ = wr; have n0_ : Aside0 (Kd.R (Kd.int .i64) 3 wr w.heap.size (fun k_ => True) u8 x8_4) := ⟨by rw [← hq_]; exact (by (with_reducible repeat (first | apply Kd.R_alloc | apply Kd.R_drewN | apply Kd.R_drew)); exact HO_8.out)⟩; have n1_ : Aside0 (wr.heap[gb144]? = some (.cells #[.int .i64 x145000_4, .int .i64 x145001_4, .int .i64 x145002_4, .int .i64 x145003_4, .int .i64 x145004_4, .int .i64 x145005_4, .int .i64 x145006_4, .string x145007_4] 32 (0, 0))) := ⟨by rw [← hq_]; exact (by (with_reducible repeat (first | refine bA ?_ _ | refine bB ?_ | refine bC ?_ _)); exact BK144.out)⟩; have n2_ : Aside0 (wr.heap[gb145]? = some (.cells #[.int .i64 0, .int .i64 0, .int .i64 0, .int .i64 0, .int .i64 0, .int .i64 0, .int .i64 0, .string (⟨#[]⟩ : ByteArray)] 32 (0, 0))) := ⟨by rw [← hq_]; exact (by (with_reducible repeat (first | refine bA ?_ _ | refine bB ?_ | refine bC ?_ _)); exact BK145.out)⟩; have n3_ : Aside0 (Below w.heap.size w wr) := ⟨by rw [← hq_]; exact (by repeat (first | (with_reducible first | exact HB.out | apply bE | apply bD | apply bF | refine below_set ?_ GE144.out | refine below_set ?_ GE145.out) | exact HB.out))⟩; clear HO_8 BK144 BK145 HB hq_; have HO_8 := n0_; have BK144 := n1_; have BK145 := n2_; have HB := n3_; clear n0_ n1_ n2_ n3_)); have hnb47 := NB145_144.out; have hnc47 := NB144_145.out; have hcz48_0 : wr.cell? ⟨gb145, 0, none⟩ = some (.int .i64 0) := (blk_cell BK145.out 0).trans rfl; have hcz48_1 : wr.cell? ⟨gb145, 1, none⟩ = some (.int .i64 0) := (blk_cell BK145.out 1).trans rfl; have hcz48_2 : wr.cell? ⟨gb145, 2, none⟩ = some (.int .i64 0) := (blk_cell BK145.out 2).trans rfl; have hcz48_3 : wr.cell? ⟨gb145, 3, none⟩ = some (.int .i64 0) := (blk_cell BK145.out 3).trans rfl; have hcz48_4 : wr.cell? ⟨gb145, 4, none⟩ = some (.int .i64 0) := (blk_cell BK145.out 4).trans rfl; have hcz48_5 : wr.cell? ⟨gb145, 5, none⟩ = some (.int .i64 0) := (blk_cell BK145.out 5).trans rfl; have hcz48_6 : wr.cell? ⟨gb145, 6, none⟩ = some (.int .i64 0) := (blk_cell BK145.out 6).trans rfl; have hcz48_7 : wr.cell? ⟨gb145, 7, none⟩ = some (.string (⟨#[]⟩ : ByteArray)) := (blk_cell BK145.out 7).trans rfl; have hfz48_0 := blk_frozen BK145.out 0; have hfz48_1 := blk_frozen BK145.out 1; have hfz48_2 := blk_frozen BK145.out 2; have hfz48_3 := blk_frozen BK145.out 3; have hfz48_4 := blk_frozen BK145.out 4; have hfz48_5 := blk_frozen BK145.out 5; have hfz48_6 := blk_frozen BK145.out 6; have hfz48_7 := blk_frozen BK145.out 7; have hcz49_0 : wr.cell? ⟨gb144, 0, none⟩ = some (.int .i64 x145000_4) := (blk_cell BK144.out 0).trans rfl; have hcz49_1 : wr.cell? ⟨gb144, 1, none⟩ = some (.int .i64 x145001_4) := (blk_cell BK144.out 1).trans rfl; have hcz49_2 : wr.cell? ⟨gb144, 2, none⟩ = some (.int .i64 x145002_4) := (blk_cell BK144.out 2).trans rfl; have hcz49_3 : wr.cell? ⟨gb144, 3, none⟩ = some (.int .i64 x145003_4) := (blk_cell BK144.out 3).trans rfl; have hcz49_4 : wr.cell? ⟨gb144, 4, none⟩ = some (.int .i64 x145004_4) := (blk_cell BK144.out 4).trans rfl; have hcz49_5 : wr.cell? ⟨gb144, 5, none⟩ = some (.int .i64 x145005_4) := (blk_cell BK144.out 5).trans rfl; have hcz49_6 : wr.cell? ⟨gb144, 6, none⟩ = some (.int .i64 x145006_4) := (blk_cell BK144.out 6).trans rfl; have hcz49_7 : wr.cell? ⟨gb144, 7, none⟩ = some (.string x145007_4) := (blk_cell BK144.out 7).trans rfl; have hfz49_0 := blk_frozen BK144.out 0; have hfz49_1 := blk_frozen BK144.out 1; have hfz49_2 := blk_frozen BK144.out 2; have hfz49_3 := blk_frozen BK144.out 3; have hfz49_4 := blk_frozen BK144.out 4; have hfz49_5 := blk_frozen BK144.out 5; have hfz49_6 := blk_frozen BK144.out 6; have hfz49_7 := blk_frozen BK144.out 7))
                 refine bodyPost_ret (results_ct rfl _ _ gb144 32 #[.int .i64 0, .int .i64 0, .int .i64 0, .int .i64 0, .int .i64 0, .int .i64 0, .int .i64 0, .string (⟨#[]⟩ : ByteArray)] (0, 0) _ rfl (by (with_reducible repeat (first | refine bA ?_ _ | refine bB ?_ | refine bC ?_ _)); refine bH (cs := #[.int .i64 0, .int .i64 0, .int .i64 0, .int .i64 0, .int .i64 0, .int .i64 0, .int .i64 0, .string x145007_4]) ?_ 7 _ rfl; (with_reducible repeat (first | refine bA ?_ _ | refine bB ?_ | refine bC ?_ _)); refine bH (cs := #[.int .i64 0, .int .i64 0, .int .i64 0, .int .i64 0, .int .i64 0, .int .i64 0, .int .i64 x145006_4, .string x145007_4]) ?_ 6 _ rfl; (with_reducible repeat (first | refine bA ?_ _ | refine bB ?_ | refine bC ?_ _)); refine bH (cs := #[.int .i64 0, .int .i64 0, .int .i64 0, .int .i64 0, .int .i64 0, .int .i64 x145005_4, .int .i64 x145006_4, .string x145007_4]) ?_ 5 _ rfl; (with_reducible repeat (first | refine bA ?_ _ | refine bB ?_ | refine bC ?_ _)); refine bH (cs := #[.int .i64 0, .int .i64 0, .int .i64 0, .int .i64 0, .int .i64 x145004_4, .int .i64 x145005_4, .int .i64 x145006_4, .string x145007_4]) ?_ 4 _ rfl; (with_reducible repeat (first | refine bA ?_ _ | refine bB ?_ | refine bC ?_ _)); refine bH (cs := #[.int .i64 0, .int .i64 0, .int .i64 0, .int .i64 x145003_4, .int .i64 x145004_4, .int .i64 x145005_4, .int .i64 x145006_4, .string x145007_4]) ?_ 3 _ rfl; (with_reducible repeat (first | refine bA ?_ _ | refine bB ?_ | refine bC ?_ _)); refine bH (cs := #[.int .i64 0, .int .i64 0, .int .i64 x145002_4, .int .i64 x145003_4, .int .i64 x145004_4, .int .i64 x145005_4, .int .i64 x145006_4, .string x145007_4]) ?_ 2 _ rfl; (with_reducible repeat (first | refine bA ?_ _ | refine bB ?_ | refine bC ?_ _)); refine bH (cs := #[.int .i64 0, .int .i64 x145001_4, .int .i64 x145002_4, .int .i64 x145003_4, .int .i64 x145004_4, .int .i64 x145005_4, .int .i64 x145006_4, .string x145007_4]) ?_ 1 _ rfl; (with_reducible repeat (first | refine bA ?_ _ | refine bB ?_ | refine bC ?_ _)); refine bH (cs := #[.int .i64 x145000_4, .int .i64 x145001_4, .int .i64 x145002_4, .int .i64 x145003_4, .int .i64 x145004_4, .int .i64 x145005_4, .int .i64 x145006_4, .string x145007_4]) ?_ 0 _ rfl; (with_reducible repeat (first | refine bA ?_ _ | refine bB ?_ | refine bC ?_ _)); exact BK144.out) Try.underlying32 rfl (by kernel_rfl)) rfl ?_
                 exact ⟨by first | rfl | (simp only [← hji11, ← hji30]; first | rfl | (simp [errW_none, errW_some] <;> rfl)) | (simp [*, errW_none, errW_some] <;> rfl), by repeat (first | (with_reducible first | exact HB.out | apply bE | apply bD | apply bF | refine below_set ?_ GE144.out | refine below_set ?_ GE145.out) | exact HB.out)⟩
               ·rw [if_neg c38] at H
                have c38b0 : decide (x10_4 < (rd y151 (ji30))) = false := decide_eq_false c38
                clear c38
                by_cases c50 : 0 < (x8_4.length : Int)
                ·rw [if_pos c50] at H
                 have c50b0 : decide (0 < (x8_4.length : Int)) = true := decide_eq_true c50
                 have c50b1 : decide (0 < x8_4.length) = true := decide_eq_true (by omega)
                 clear c50
                 have HC51 := zM H
                 clear H
                 obtain ⟨Ao52, co52, eo52⟩ := Kd.R_slice HO_8.out
                 subst eo52
                 have p164 : 0 ≤ (0 : Int) := (by omega)
                 have q164 : 0 < (x8_4.length : Int) := of_decide_eq_true (by first | (with_reducible assumption) | assumption)
                 obtain ⟨ad164, e164, hx164_0⟩ := Kd.at_int (Kd.R_reads' HO_8.out).2.2 0 p164 q164
                 cases e164
                 have qi164 : (0 < x8_4.length) = True := eq_true (by omega)
                 (try rw [show ((0 : Int)).toNat = 0 from rfl] at hx164_0)
                 (try rw [Addr.add_zero'] at hx164_0)
                 replace p164 := eq_true p164
                 replace q164 := eq_true q164
                 (try (have q164d := q164; simp only [List.length_drop] at q164d))
                 (try (have q164e := of_eq_true q164; rw [List.length_take] at q164e; replace q164e := Int.lt_of_lt_of_le q164e (Int.ofNat_le.mpr (Nat.min_le_left _ _)); rw [Int.ofNat_toNat] at q164e; have q164g := eq_false (Int.not_le.mpr q164e); replace q164e := eq_true q164e))
                 go_upto_block 2 with (first | ((with_reducible refine gate_dst (N := 14) rfl ?_); refine box_event ?hg (N := 14) ?hd (cs := #[.int .i64 0, .int .i64 0, .int .i64 0, .int .i64 0, .int .i64 0, .int .i64 0, .int .i64 0, .string (⟨#[]⟩ : ByteArray)]) (t := 32) ?hr ?_; (case hd => rfl); (case hg => rfl); (case hr => first | (go_simp; done) | (go_simp; rfl)); intro gb165 hg w53 hbox hb; have n0_ := zM (Kd.R_below (by (with_reducible repeat (first | apply Kd.R_alloc | apply Kd.R_drewN | apply Kd.R_drew)); exact HO_8.out) hb); have n1_ := zM (blk_below (g := gb144) (o := .cells #[.int .i64 x145000_4, .int .i64 x145001_4, .int .i64 x145002_4, .int .i64 x145003_4, .int .i64 x145004_4, .int .i64 x145005_4, .int .i64 x145006_4, .string x145007_4] 32 (0, 0)) (by (with_reducible repeat (first | refine bA ?_ _ | refine bB ?_ | refine bC ?_ _)); exact BK144.out) hb); have n2_ := zM (blk_below (g := gb145) (o := .cells #[.int .i64 0, .int .i64 0, .int .i64 0, .int .i64 0, .int .i64 0, .int .i64 0, .int .i64 0, .string (⟨#[]⟩ : ByteArray)] 32 (0, 0)) (by (with_reducible repeat (first | refine bA ?_ _ | refine bB ?_ | refine bC ?_ _)); exact BK145.out) hb); have n3_ := zM (bG (by repeat (first | (with_reducible first | exact HB.out | apply bE | apply bD | apply bF | refine below_set ?_ GE144.out | refine below_set ?_ GE145.out) | exact HB.out)) hb); have n4_ := zM (hbox); have n5_ := zM ((by rw [hg]; exact (below_size (by repeat (first | (with_reducible first | exact HB.out | apply bE | apply bD | apply bF | refine below_set ?_ GE144.out | refine below_set ?_ GE145.out) | exact HB.out))) : w.heap.size ≤ gb165)); have n6_ := zM ((by rw [hg]; exact (below_size (by repeat (first | (with_reducible first | exact HB.out | apply bE | apply bD | apply bF | refine below_set ?_ GE144.out | refine below_set ?_ GE145.out) | exact HB.out))) : w.heap.size ≤ gb165)); have n7_ := zM ((by rw [hg]; exact Nat.ne_of_lt (blk_lt (g := gb144) (o := .cells #[.int .i64 x145000_4, .int .i64 x145001_4, .int .i64 x145002_4, .int .i64 x145003_4, .int .i64 x145004_4, .int .i64 x145005_4, .int .i64 x145006_4, .string x145007_4] 32 (0, 0)) (by (with_reducible repeat (first | refine bA ?_ _ | refine bB ?_ | refine bC ?_ _)); exact BK144.out)) : gb144 ≠ gb165)); have n8_ := zM ((by rw [hg]; exact Nat.ne_of_gt (blk_lt (g := gb144) (o := .cells #[.int .i64 x145000_4, .int .i64 x145001_4, .int .i64 x145002_4, .int .i64 x145003_4, .int .i64 x145004_4, .int .i64 x145005_4, .int .i64 x145006_4, .string x145007_4] 32 (0, 0)) (by (with_reducible repeat (first | refine bA ?_ _ | refine bB ?_ | refine bC ?_ _)); exact BK144.out)) : gb165 ≠ gb144)); have n9_ := zM ((by rw [hg]; exact Nat.ne_of_lt (blk_lt (g := gb145) (o := .cells #[.int .i64 0, .int .i64 0, .int .i64 0, .int .i64 0, .int .i64 0, .int .i64 0, .int .i64 0, .string (⟨#[]⟩ : ByteArray)] 32 (0, 0)) (by (with_reducible repeat (first | refine bA ?_ _ | refine bB ?_ | refine bC ?_ _)); exact BK145.out)) : gb145 ≠ gb165)); have n10_ := zM ((by rw [hg]; exact Nat.ne_of_gt (blk_lt (g := gb145) (o := .cells #[.int .i64 0, .int .i64 0, .int .i64 0, .int .i64 0, .int .i64 0, .int .i64 0, .int .i64 0, .string (⟨#[]⟩ : ByteArray)] 32 (0, 0)) (by (with_reducible repeat (first | refine bA ?_ _ | refine bB ?_ | refine bC ?_ _)); exact BK145.out)) : gb165 ≠ gb145)); clear HO_8; clear BK144; clear BK145; clear HB; have HO_8 := n0_; have BK144 := n1_; have BK145 := n2_; have HB := n3_; have BK165 := n4_; have GW165 := n5_; have GE165 := n6_; have NB144_165 := n7_; have NB165_144 := n8_; have NB145_165 := n9_; have NB165_145 := n10_; clear n0_ n1_ n2_ n3_ n4_ n5_ n6_ n7_ n8_ n9_ n10_; clear hb hbox hg; have hnb54 := NB165_144.out; have hnc54 := NB144_165.out; have hnb55 := NB165_145.out; have hnc55 := NB145_165.out; have hcz56_0 : w53.cell? ⟨gb165, 0, none⟩ = some (.int .i64 0) := (blk_cell BK165.out 0).trans rfl; have hcz56_1 : w53.cell? ⟨gb165, 1, none⟩ = some (.int .i64 0) := (blk_cell BK165.out 1).trans rfl; have hcz56_2 : w53.cell? ⟨gb165, 2, none⟩ = some (.int .i64 0) := (blk_cell BK165.out 2).trans rfl; have hcz56_3 : w53.cell? ⟨gb165, 3, none⟩ = some (.int .i64 0) := (blk_cell BK165.out 3).trans rfl; have hcz56_4 : w53.cell? ⟨gb165, 4, none⟩ = some (.int .i64 0) := (blk_cell BK165.out 4).trans rfl; have hcz56_5 : w53.cell? ⟨gb165, 5, none⟩ = some (.int .i64 0) := (blk_cell BK165.out 5).trans rfl; have hcz56_6 : w53.cell? ⟨gb165, 6, none⟩ = some (.int .i64 0) := (blk_cell BK165.out 6).trans rfl; have hcz56_7 : w53.cell? ⟨gb165, 7, none⟩ = some (.string (⟨#[]⟩ : ByteArray)) := (blk_cell BK165.out 7).trans rfl; have hfz56_0 := blk_frozen BK165.out 0; have hfz56_1 := blk_frozen BK165.out 1; have hfz56_2 := blk_frozen BK165.out 2; have hfz56_3 := blk_frozen BK165.out 3; have hfz56_4 := blk_frozen BK165.out 4; have hfz56_5 := blk_frozen BK165.out 5; have hfz56_6 := blk_frozen BK165.out 6; have hfz56_7 := blk_frozen BK165.out 7))
                 (try simp only [Act.put, zS, z0, z1])
                 go_cut [9] (fun v9 wc => ∃ (kq : Nat) (x9_50 : Int) (x145000_50 : Int) (x145001_50 : Int) (x145002_50 : Int) (x145003_50 : Int) (x145004_50 : Int) (x145005_50 : Int) (x145006_50 : Int) (x145007_50 : ByteArray) (x166002_50 : Int) (x166003_50 : Int) (x166004_50 : Int) (x166005_50 : Int) (x166006_50 : Int) (x166007_50 : ByteArray), v9 = .int .i64 x9_50 ∧ Aside0 (spec_Unpack.j4 kq yy17 x9_50 0 0 0 0 0 0 0 (⟨#[]⟩ : ByteArray) (ji30) (rd x8_4 0) x166002_50 x166003_50 x166004_50 x166005_50 x166006_50 x166007_50 = some (r1, r2, r3, r4, r5, r6, r7, r8, r9)) ∧ Aside0 (kq ≤ k4) ∧ Aside0 (wc.heap[gb144]? = some (.cells #[.int .i64 x145000_50, .int .i64 x145001_50, .int .i64 x145002_50, .int .i64 x145003_50, .int .i64 x145004_50, .int .i64 x145005_50, .int .i64 x145006_50, .string x145007_50] 32 (0, 0))) ∧ Aside0 (wc.heap[gb145]? = some (.cells #[.int .i64 0, .int .i64 0, .int .i64 0, .int .i64 0, .int .i64 0, .int .i64 0, .int .i64 0, .string (⟨#[]⟩ : ByteArray)] 32 (0, 0))) ∧ Aside0 (wc.heap[gb165]? = some (.cells #[.int .i64 (ji30), .int .i64 (rd x8_4 0), .int .i64 x166002_50, .int .i64 x166003_50, .int .i64 x166004_50, .int .i64 x166005_50, .int .i64 x166006_50, .string x166007_50] 32 (0, 0))) ∧ Aside0 (Below w.heap.size w wc))
                 case first =>
                  have H := HC51.out
                  clear HC51
                  by_cases c57 : (ji30) = 3
                  ·rw [if_pos c57] at H
                   have c57b0 : ((ji30) == 3) = true := beq_iff_eq.mpr c57
                   have c57b1 : ((ji30) != 3) = false := bne_eq_false_iff_eq.mpr c57
                   clear c57
                   (first | rw [c57b0] | (simp only [i64_w, i32_w]; rw [c57b0]) | skip)
                   by_cases c58 : 1 < (x8_4.length : Int)
                   ·rw [if_pos c58] at H
                    have c58b0 : decide (1 < (x8_4.length : Int)) = true := decide_eq_true c58
                    have c58b1 : decide (1 < x8_4.length) = true := decide_eq_true (by omega)
                    clear c58
                    by_cases c59 : 2 < (x8_4.length : Int)
                    ·rw [if_pos c59] at H
                     have c59b0 : decide (2 < (x8_4.length : Int)) = true := decide_eq_true c59
                     have c59b1 : decide (2 < x8_4.length) = true := decide_eq_true (by omega)
                     clear c59
                     by_cases c60 : (wrap64 ((yy17.length : Int) - x9_4)) < (rd x8_4 2)
                     ·rw [if_pos c60] at H
                      have c60b0 : decide ((wrap64 ((yy17.length : Int) - x9_4)) < (rd x8_4 2)) = true := decide_eq_true c60
                      clear c60
                      simp only [zI, zJ] at H
                      obtain ⟨rfl, rfl, rfl, rfl, rfl, rfl, rfl, rfl, rfl⟩ := H
                      have p166 : 0 ≤ (1 : Int) := (by omega)
                      have q166 : 1 < (x8_4.length : Int) := of_decide_eq_true (by first | (with_reducible assumption) | assumption)
                      obtain ⟨ad166, e166, hx166_0⟩ := Kd.at_int (Kd.R_reads' HO_8.out).2.2 1 p166 q166
                      obtain rfl : ad164 = ad166 := (by injection e166)
                      (try simp only [show (1 : Int).toNat = 1 from rfl, Nat.reduceMul, Nat.reduceEqDiff, Go.Addr.add, ↓reduceIte] at hx166_0)
                      have qi166 : (1 < x8_4.length) = True := eq_true (by omega)
                      (try rw [show ((1 : Int)).toNat = 1 from rfl] at hx166_0)
                      have hn166_0 : ad164.block ≠ gb165 := Kd.own_blk (Kd.R_ne HO_8.out BK165.out (by decide))
                      have hn166_1 : ad164.block ≠ gb165 := Kd.own_blk (Kd.R_ne HO_8.out BK165.out (by decide))
                      have hn166_2 : ad164.block ≠ gb165 := Kd.own_blk (Kd.R_ne HO_8.out BK165.out (by decide))
                      have hn166_3 : ad164.block ≠ gb165 := Kd.own_blk (Kd.R_ne HO_8.out BK165.out (by decide))
                      have hn166_4 : ad164.block ≠ gb165 := Kd.own_blk (Kd.R_ne HO_8.out BK165.out (by decide))
                      have hn166_5 : ad164.block ≠ gb165 := Kd.own_blk (Kd.R_ne HO_8.out BK165.out (by decide))
                      have hn166_6 : ad164.block ≠ gb165 := Kd.own_blk (Kd.R_ne HO_8.out BK165.out (by decide))
                      have hn166_7 : ad164.block ≠ gb165 := Kd.own_blk (Kd.R_ne HO_8.out BK165.out (by decide))
                      replace hx166_0 := (cell_far (p := ⟨gb165, 0, none⟩) (by first | (rw [add_block]; exact hn166_0) | (show (Addr.add _ _).block ≠ _; rw [add_block]; exact hn166_0) | exact hn166_0) (.int .i64 (ji30))).trans hx166_0
                      replace hx166_0 := (cell_far (p := ⟨gb165, 1, none⟩) (by first | (rw [add_block]; exact hn166_1) | (show (Addr.add _ _).block ≠ _; rw [add_block]; exact hn166_1) | exact hn166_1) (.int .i64 (rd x8_4 0))).trans hx166_0
                      replace hx166_0 := (cell_far (p := ⟨gb165, 2, none⟩) (by first | (rw [add_block]; exact hn166_2) | (show (Addr.add _ _).block ≠ _; rw [add_block]; exact hn166_2) | exact hn166_2) (.int .i64 0)).trans hx166_0
                      replace hx166_0 := (cell_far (p := ⟨gb165, 3, none⟩) (by first | (rw [add_block]; exact hn166_3) | (show (Addr.add _ _).block ≠ _; rw [add_block]; exact hn166_3) | exact hn166_3) (.int .i64 0)).trans hx166_0
                      replace hx166_0 := (cell_far (p := ⟨gb165, 4, none⟩) (by first | (rw [add_block]; exact hn166_4) | (show (Addr.add _ _).block ≠ _; rw [add_block]; exact hn166_4) | exact hn166_4) (.int .i64 0)).trans hx166_0
                      replace hx166_0 := (cell_far (p := ⟨gb165, 5, none⟩) (by first | (rw [add_block]; exact hn166_5) | (show (Addr.add _ _).block ≠ _; rw [add_block]; exact hn166_5) | exact hn166_5) (.int .i64 0)).trans hx166_0
                      replace hx166_0 := (cell_far (p := ⟨gb165, 6, none⟩) (by first | (rw [add_block]; exact hn166_6) | (show (Addr.add _ _).block ≠ _; rw [add_block]; exact hn166_6) | exact hn166_6) (.int .i64 0)).trans hx166_0
                      replace hx166_0 := (cell_far (p := ⟨gb165, 7, none⟩) (by first | (rw [add_block]; exact hn166_7) | (show (Addr.add _ _).block ≠ _; rw [add_block]; exact hn166_7) | exact hn166_7) (.string (⟨#[]⟩ : ByteArray))).trans hx166_0
                      clear hn166_0
                      clear hn166_1
                      clear hn166_2
                      clear hn166_3
                      clear hn166_4
                      clear hn166_5
                      clear hn166_6
                      clear hn166_7
                      replace p166 := eq_true p166
                      replace q166 := eq_true q166
                      (try (have q166d := q166; simp only [List.length_drop] at q166d))
                      (try (have q166e := of_eq_true q166; rw [List.length_take] at q166e; replace q166e := Int.lt_of_lt_of_le q166e (Int.ofNat_le.mpr (Nat.min_le_left _ _)); rw [Int.ofNat_toNat] at q166e; have q166g := eq_false (Int.not_le.mpr q166e); replace q166e := eq_true q166e))
                      have hnb61 := NB165_144.out
                      have hnc61 := NB144_165.out
                      have hnb62 := NB165_145.out
                      have hnc62 := NB145_165.out
                      have hcz63_0 : w53.cell? ⟨gb165, 0, none⟩ = some (.int .i64 0) := (blk_cell BK165.out 0).trans rfl
                      have hcz63_1 : w53.cell? ⟨gb165, 1, none⟩ = some (.int .i64 0) := (blk_cell BK165.out 1).trans rfl
                      have hcz63_2 : w53.cell? ⟨gb165, 2, none⟩ = some (.int .i64 0) := (blk_cell BK165.out 2).trans rfl
                      have hcz63_3 : w53.cell? ⟨gb165, 3, none⟩ = some (.int .i64 0) := (blk_cell BK165.out 3).trans rfl
                      have hcz63_4 : w53.cell? ⟨gb165, 4, none⟩ = some (.int .i64 0) := (blk_cell BK165.out 4).trans rfl
                      have hcz63_5 : w53.cell? ⟨gb165, 5, none⟩ = some (.int .i64 0) := (blk_cell BK165.out 5).trans rfl
                      have hcz63_6 : w53.cell? ⟨gb165, 6, none⟩ = some (.int .i64 0) := (blk_cell BK165.out 6).trans rfl
                      have hcz63_7 : w53.cell? ⟨gb165, 7, none⟩ = some (.string (⟨#[]⟩ : ByteArray)) := (blk_cell BK165.out 7).trans rfl
                      have hfz63_0 := blk_frozen BK165.out 0
                      have hfz63_1 := blk_frozen BK165.out 1
                      have hfz63_2 := blk_frozen BK165.out 2
                      have hfz63_3 := blk_frozen BK165.out 3
                      have hfz63_4 := blk_frozen BK165.out 4
                      have hfz63_5 := blk_frozen BK165.out 5
                      have hfz63_6 := blk_frozen BK165.out 6
                      have hfz63_7 := blk_frozen BK165.out 7
                      have p167 : 0 ≤ (2 : Int) := (by omega)
                      have q167 : 2 < (x8_4.length : Int) := of_decide_eq_true (by first | (with_reducible assumption) | assumption)
                      obtain ⟨ad167, e167, hx167_0⟩ := Kd.at_int (Kd.R_reads' HO_8.out).2.2 2 p167 q167
                      obtain rfl : ad164 = ad167 := (by injection e167)
                      (try simp only [show (2 : Int).toNat = 2 from rfl, Nat.reduceMul, Nat.reduceEqDiff, Go.Addr.add, ↓reduceIte] at hx167_0)
                      have qi167 : (2 < x8_4.length) = True := eq_true (by omega)
                      (try rw [show ((2 : Int)).toNat = 2 from rfl] at hx167_0)
                      have hn167_0 : ad164.block ≠ gb165 := Kd.own_blk (Kd.R_ne HO_8.out BK165.out (by decide))
                      have hn167_1 : ad164.block ≠ gb165 := Kd.own_blk (Kd.R_ne HO_8.out BK165.out (by decide))
                      have hn167_2 : ad164.block ≠ gb165 := Kd.own_blk (Kd.R_ne HO_8.out BK165.out (by decide))
                      have hn167_3 : ad164.block ≠ gb165 := Kd.own_blk (Kd.R_ne HO_8.out BK165.out (by decide))
                      have hn167_4 : ad164.block ≠ gb165 := Kd.own_blk (Kd.R_ne HO_8.out BK165.out (by decide))
                      have hn167_5 : ad164.block ≠ gb165 := Kd.own_blk (Kd.R_ne HO_8.out BK165.out (by decide))
                      have hn167_6 : ad164.block ≠ gb165 := Kd.own_blk (Kd.R_ne HO_8.out BK165.out (by decide))
                      have hn167_7 : ad164.block ≠ gb165 := Kd.own_blk (Kd.R_ne HO_8.out BK165.out (by decide))
                      have hn167_8 : ad164.block ≠ gb165 := Kd.own_blk (Kd.R_ne HO_8.out BK165.out (by decide))
                      replace hx167_0 := (cell_far (p := ⟨gb165, 0, none⟩) (by first | (rw [add_block]; exact hn167_0) | (show (Addr.add _ _).block ≠ _; rw [add_block]; exact hn167_0) | exact hn167_0) (.int .i64 (ji30))).trans hx167_0
                      replace hx167_0 := (cell_far (p := ⟨gb165, 1, none⟩) (by first | (rw [add_block]; exact hn167_1) | (show (Addr.add _ _).block ≠ _; rw [add_block]; exact hn167_1) | exact hn167_1) (.int .i64 (rd x8_4 0))).trans hx167_0
                      replace hx167_0 := (cell_far (p := ⟨gb165, 2, none⟩) (by first | (rw [add_block]; exact hn167_2) | (show (Addr.add _ _).block ≠ _; rw [add_block]; exact hn167_2) | exact hn167_2) (.int .i64 0)).trans hx167_0
                      replace hx167_0 := (cell_far (p := ⟨gb165, 3, none⟩) (by first | (rw [add_block]; exact hn167_3) | (show (Addr.add _ _).block ≠ _; rw [add_block]; exact hn167_3) | exact hn167_3) (.int .i64 0)).trans hx167_0
                      replace hx167_0 := (cell_far (p := ⟨gb165, 4, none⟩) (by first | (rw [add_block]; exact hn167_4) | (show (Addr.add _ _).block ≠ _; rw [add_block]; exact hn167_4) | exact hn167_4) (.int .i64 0)).trans hx167_0
                      replace hx167_0 := (cell_far (p := ⟨gb165, 5, none⟩) (by first | (rw [add_block]; exact hn167_5) | (show (Addr.add _ _).block ≠ _; rw [add_block]; exact hn167_5) | exact hn167_5) (.int .i64 0)).trans hx167_0
                      replace hx167_0 := (cell_far (p := ⟨gb165, 6, none⟩) (by first | (rw [add_block]; exact hn167_6) | (show (Addr.add _ _).block ≠ _; rw [add_block]; exact hn167_6) | exact hn167_6) (.int .i64 0)).trans hx167_0
                      replace hx167_0 := (cell_far (p := ⟨gb165, 7, none⟩) (by first | (rw [add_block]; exact hn167_7) | (show (Addr.add _ _).block ≠ _; rw [add_block]; exact hn167_7) | exact hn167_7) (.string (⟨#[]⟩ : ByteArray))).trans hx167_0
                      replace hx167_0 := (cell_far (p := ⟨gb165, 6, none⟩) (by first | (rw [add_block]; exact hn167_8) | (show (Addr.add _ _).block ≠ _; rw [add_block]; exact hn167_8) | exact hn167_8) (.int .i64 (rd x8_4 1))).trans hx167_0
                      clear hn167_0
                      clear hn167_1
                      clear hn167_2
                      clear hn167_3
                      clear hn167_4
                      clear hn167_5
                      clear hn167_6
                      clear hn167_7
                      clear hn167_8
                      replace p167 := eq_true p167
                      replace q167 := eq_true q167
                      (try (have q167d := q167; simp only [List.length_drop] at q167d))
                      (try (have q167e := of_eq_true q167; rw [List.length_take] at q167e; replace q167e := Int.lt_of_lt_of_le q167e (Int.ofNat_le.mpr (Nat.min_le_left _ _)); rw [Int.ofNat_toNat] at q167e; have q167g := eq_false (Int.not_le.mpr q167e); replace q167e := eq_true q167e))
                      have hnb64 := NB145_144.out
                      have hnc64 := NB144_145.out
                      have hcz65_0 : w53.cell? ⟨gb145, 0, none⟩ = some (.int .i64 0) := (blk_cell BK145.out 0).trans rfl
                      have hcz65_1 : w53.cell? ⟨gb145, 1, none⟩ = some (.int .i64 0) := (blk_cell BK145.out 1).trans rfl
                      have hcz65_2 : w53.cell? ⟨gb145, 2, none⟩ = some (.int .i64 0) := (blk_cell BK145.out 2).trans rfl
                      have hcz65_3 : w53.cell? ⟨gb145, 3, none⟩ = some (.int .i64 0) := (blk_cell BK145.out 3).trans rfl
                      have hcz65_4 : w53.cell? ⟨gb145, 4, none⟩ = some (.int .i64 0) := (blk_cell BK145.out 4).trans rfl
                      have hcz65_5 : w53.cell? ⟨gb145, 5, none⟩ = some (.int .i64 0) := (blk_cell BK145.out 5).trans rfl
                      have hcz65_6 : w53.cell? ⟨gb145, 6, none⟩ = some (.int .i64 0) := (blk_cell BK145.out 6).trans rfl
                      have hcz65_7 : w53.cell? ⟨gb145, 7, none⟩ = some (.string (⟨#[]⟩ : ByteArray)) := (blk_cell BK145.out 7).trans rfl
                      have hfz65_0 := blk_frozen BK145.out 0
                      have hfz65_1 := blk_frozen BK145.out 1
                      have hfz65_2 := blk_frozen BK145.out 2
                      have hfz65_3 := blk_frozen BK145.out 3
                      have hfz65_4 := blk_frozen BK145.out 4
                      have hfz65_5 := blk_frozen BK145.out 5
                      have hfz65_6 := blk_frozen BK145.out 6
                      have hfz65_7 := blk_frozen BK145.out 7
                      have hcz66_0 : w53.cell? ⟨gb144, 0, none⟩ = some (.int .i64 x145000_4) := (blk_cell BK144.out 0).trans rfl
                      have hcz66_1 : w53.cell? ⟨gb144, 1, none⟩ = some (.int .i64 x145001_4) := (blk_cell BK144.out 1).trans rfl
                      have hcz66_2 : w53.cell? ⟨gb144, 2, none⟩ = some (.int .i64 x145002_4) := (blk_cell BK144.out 2).trans rfl
                      have hcz66_3 : w53.cell? ⟨gb144, 3, none⟩ = some (.int .i64 x145003_4) := (blk_cell BK144.out 3).trans rfl
                      have hcz66_4 : w53.cell? ⟨gb144, 4, none⟩ = some (.int .i64 x145004_4) := (blk_cell BK144.out 4).trans rfl
                      have hcz66_5 : w53.cell? ⟨gb144, 5, none⟩ = some (.int .i64 x145005_4) := (blk_cell BK144.out 5).trans rfl
                      have hcz66_6 : w53.cell? ⟨gb144, 6, none⟩ = some (.int .i64 x145006_4) := (blk_cell BK144.out 6).trans rfl
                      have hcz66_7 : w53.cell? ⟨gb144, 7, none⟩ = some (.string x145007_4) := (blk_cell BK144.out 7).trans rfl
                      have hfz66_0 := blk_frozen BK144.out 0
                      have hfz66_1 := blk_frozen BK144.out 1
                      have hfz66_2 := blk_frozen BK144.out 2
                      have hfz66_3 := blk_frozen BK144.out 3
                      have hfz66_4 := blk_frozen BK144.out 4
                      have hfz66_5 := blk_frozen BK144.out 5
                      have hfz66_6 := blk_frozen BK144.out 6
                      have hfz66_7 := blk_frozen BK144.out 7
                      go_wp2
                      refine bodyPost_ret (results_ct rfl _ _ gb144 32 #[.int .i64 0, .int .i64 0, .int .i64 0, .int .i64 0, .int .i64 0, .int .i64 0, .int .i64 0, .string (⟨#[]⟩ : ByteArray)] (0, 0) _ rfl (by (with_reducible repeat (first | refine bA ?_ _ | refine bB ?_ | refine bC ?_ _)); refine bH (cs := #[.int .i64 0, .int .i64 0, .int .i64 0, .int .i64 0, .int .i64 0, .int .i64 0, .int .i64 0, .string x145007_4]) ?_ 7 _ rfl; (with_reducible repeat (first | refine bA ?_ _ | refine bB ?_ | refine bC ?_ _)); refine bH (cs := #[.int .i64 0, .int .i64 0, .int .i64 0, .int .i64 0, .int .i64 0, .int .i64 0, .int .i64 x145006_4, .string x145007_4]) ?_ 6 _ rfl; (with_reducible repeat (first | refine bA ?_ _ | refine bB ?_ | refine bC ?_ _)); refine bH (cs := #[.int .i64 0, .int .i64 0, .int .i64 0, .int .i64 0, .int .i64 0, .int .i64 x145005_4, .int .i64 x145006_4, .string x145007_4]) ?_ 5 _ rfl; (with_reducible repeat (first | refine bA ?_ _ | refine bB ?_ | refine bC ?_ _)); refine bH (cs := #[.int .i64 0, .int .i64 0, .int .i64 0, .int .i64 0, .int .i64 x145004_4, .int .i64 x145005_4, .int .i64 x145006_4, .string x145007_4]) ?_ 4 _ rfl; (with_reducible repeat (first | refine bA ?_ _ | refine bB ?_ | refine bC ?_ _)); refine bH (cs := #[.int .i64 0, .int .i64 0, .int .i64 0, .int .i64 x145003_4, .int .i64 x145004_4, .int .i64 x145005_4, .int .i64 x145006_4, .string x145007_4]) ?_ 3 _ rfl; (with_reducible repeat (first | refine bA ?_ _ | refine bB ?_ | refine bC ?_ _)); refine bH (cs := #[.int .i64 0, .int .i64 0, .int .i64 x145002_4, .int .i64 x145003_4, .int .i64 x145004_4, .int .i64 x145005_4, .int .i64 x145006_4, .string x145007_4]) ?_ 2 _ rfl; (with_reducible repeat (first | refine bA ?_ _ | refine bB ?_ | refine bC ?_ _)); refine bH (cs := #[.int .i64 0, .int .i64 x145001_4, .int .i64 x145002_4, .int .i64 x145003_4, .int .i64 x145004_4, .int .i64 x145005_4, .int .i64 x145006_4, .string x145007_4]) ?_ 1 _ rfl; (with_reducible repeat (first | refine bA ?_ _ | refine bB ?_ | refine bC ?_ _)); refine bH (cs := #[.int .i64 x145000_4, .int .i64 x145001_4, .int .i64 x145002_4, .int .i64 x145003_4, .int .i64 x145004_4, .int .i64 x145005_4, .int .i64 x145006_4, .string x145007_4]) ?_ 0 _ rfl; (with_reducible repeat (first | refine bA ?_ _ | refine bB ?_ | refine bC ?_ _)); refine blk_far ?_ NB144_165.out _; (with_reducible repeat (first | refine bA ?_ _ | refine bB ?_ | refine bC ?_ _)); refine blk_far ?_ NB144_165.out _; (with_reducible repeat (first | refine bA ?_ _ | refine bB ?_ | refine bC ?_ _)); refine blk_far ?_ NB144_165.out _; (with_reducible repeat (first | refine bA ?_ _ | refine bB ?_ | refine bC ?_ _)); refine blk_far ?_ NB144_165.out _; (with_reducible repeat (first | refine bA ?_ _ | refine bB ?_ | refine bC ?_ _)); refine blk_far ?_ NB144_165.out _; (with_reducible repeat (first | refine bA ?_ _ | refine bB ?_ | refine bC ?_ _)); refine blk_far ?_ NB144_165.out _; (with_reducible repeat (first | refine bA ?_ _ | refine bB ?_ | refine bC ?_ _)); refine blk_far ?_ NB144_165.out _; (with_reducible repeat (first | refine bA ?_ _ | refine bB ?_ | refine bC ?_ _)); refine blk_far ?_ NB144_165.out _; (with_reducible repeat (first | refine bA ?_ _ | refine bB ?_ | refine bC ?_ _)); refine blk_far ?_ NB144_165.out _; (with_reducible repeat (first | refine bA ?_ _ | refine bB ?_ | refine bC ?_ _)); exact BK144.out) Try.underlying32 rfl (by kernel_rfl)) rfl ?_
                      exact ⟨by first | rfl | (simp only [← hji11, ← hji30]; first | rfl | (simp [errW_none, errW_some] <;> rfl)) | (simp [*, errW_none, errW_some] <;> rfl), by repeat (first | (with_reducible first | exact HB.out | apply bE | apply bD | apply bF | refine below_set ?_ GE144.out | refine below_set ?_ GE145.out | refine below_set ?_ GE165.out) | exact HB.out)⟩
                     ·rw [if_neg c60] at H
                      have c60b0 : decide ((wrap64 ((yy17.length : Int) - x9_4)) < (rd x8_4 2)) = false := decide_eq_false c60
                      clear c60
                      by_cases c67 : 0 ≤ x9_4
                      ·rw [if_pos c67] at H
                       have c67b0 := eq_true c67
                       have c67b1 : decide (0 ≤ x9_4) = true := decide_eq_true c67
                       clear c67
                       by_cases c68 : x9_4 ≤ (wrap64 (x9_4 + (rd x8_4 2)))
                       ·rw [if_pos c68] at H
                        have c68b0 := eq_true c68
                        have c68b1 : decide (x9_4 ≤ (wrap64 (x9_4 + (rd x8_4 2)))) = true := decide_eq_true c68
                        by_cases c69 : (wrap64 (x9_4 + (rd x8_4 2))) ≤ (yy17.length : Int)
                        ·rw [if_pos c69] at H
                         have c69b0 := eq_true c69
                         have c69b1 : decide ((wrap64 (x9_4 + (rd x8_4 2))) ≤ (yy17.length : Int)) = true := decide_eq_true c69
                         have H' := zM H
                         clear H
                         have p166 : 0 ≤ (1 : Int) := (by omega)
                         have q166 : 1 < (x8_4.length : Int) := of_decide_eq_true (by first | (with_reducible assumption) | assumption)
                         obtain ⟨ad166, e166, hx166_0⟩ := Kd.at_int (Kd.R_reads' HO_8.out).2.2 1 p166 q166
                         obtain rfl : ad164 = ad166 := (by injection e166)
                         (try simp only [show (1 : Int).toNat = 1 from rfl, Nat.reduceMul, Nat.reduceEqDiff, Go.Addr.add, ↓reduceIte] at hx166_0)
                         have qi166 : (1 < x8_4.length) = True := eq_true (by omega)
                         (try rw [show ((1 : Int)).toNat = 1 from rfl] at hx166_0)
                         have hn166_0 : ad164.block ≠ gb165 := Kd.own_blk (Kd.R_ne HO_8.out BK165.out (by decide))
                         have hn166_1 : ad164.block ≠ gb165 := Kd.own_blk (Kd.R_ne HO_8.out BK165.out (by decide))
                         have hn166_2 : ad164.block ≠ gb165 := Kd.own_blk (Kd.R_ne HO_8.out BK165.out (by decide))
                         have hn166_3 : ad164.block ≠ gb165 := Kd.own_blk (Kd.R_ne HO_8.out BK165.out (by decide))
                         have hn166_4 : ad164.block ≠ gb165 := Kd.own_blk (Kd.R_ne HO_8.out BK165.out (by decide))
                         have hn166_5 : ad164.block ≠ gb165 := Kd.own_blk (Kd.R_ne HO_8.out BK165.out (by decide))
                         have hn166_6 : ad164.block ≠ gb165 := Kd.own_blk (Kd.R_ne HO_8.out BK165.out (by decide))
                         have hn166_7 : ad164.block ≠ gb165 := Kd.own_blk (Kd.R_ne HO_8.out BK165.out (by decide))
                         replace hx166_0 := (cell_far (p := ⟨gb165, 0, none⟩) (by first | (rw [add_block]; exact hn166_0) | (show (Addr.add _ _).block ≠ _; rw [add_block]; exact hn166_0) | exact hn166_0) (.int .i64 (ji30))).trans hx166_0
                         replace hx166_0 := (cell_far (p := ⟨gb165, 1, none⟩) (by first | (rw [add_block]; exact hn166_1) | (show (Addr.add _ _).block ≠ _; rw [add_block]; exact hn166_1) | exact hn166_1) (.int .i64 (rd x8_4 0))).trans hx166_0
                         replace hx166_0 := (cell_far (p := ⟨gb165, 2, none⟩) (by first | (rw [add_block]; exact hn166_2) | (show (Addr.add _ _).block ≠ _; rw [add_block]; exact hn166_2) | exact hn166_2) (.int .i64 0)).trans hx166_0
                         replace hx166_0 := (cell_far (p := ⟨gb165, 3, none⟩) (by first | (rw [add_block]; exact hn166_3) | (show (Addr.add _ _).block ≠ _; rw [add_block]; exact hn166_3) | exact hn166_3) (.int .i64 0)).trans hx166_0
                         replace hx166_0 := (cell_far (p := ⟨gb165, 4, none⟩) (by first | (rw [add_block]; exact hn166_4) | (show (Addr.add _ _).block ≠ _; rw [add_block]; exact hn166_4) | exact hn166_4) (.int .i64 0)).trans hx166_0
                         replace hx166_0 := (cell_far (p := ⟨gb165, 5, none⟩) (by first | (rw [add_block]; exact hn166_5) | (show (Addr.add _ _).block ≠ _; rw [add_block]; exact hn166_5) | exact hn166_5) (.int .i64 0)).trans hx166_0
                         replace hx166_0 := (cell_far (p := ⟨gb165, 6, none⟩) (by first | (rw [add_block]; exact hn166_6) | (show (Addr.add _ _).block ≠ _; rw [add_block]; exact hn166_6) | exact hn166_6) (.int .i64 0)).trans hx166_0
                         replace hx166_0 := (cell_far (p := ⟨gb165, 7, none⟩) (by first | (rw [add_block]; exact hn166_7) | (show (Addr.add _ _).block ≠ _; rw [add_block]; exact hn166_7) | exact hn166_7) (.string (⟨#[]⟩ : ByteArray))).trans hx166_0
                         clear hn166_0
                         clear hn166_1
                         clear hn166_2
                         clear hn166_3
                         clear hn166_4
                         clear hn166_5
                         clear hn166_6
                         clear hn166_7
                         replace p166 := eq_true p166
                         replace q166 := eq_true q166
                         (try (have q166d := q166; simp only [List.length_drop] at q166d))
                         (try (have q166e := of_eq_true q166; rw [List.length_take] at q166e; replace q166e := Int.lt_of_lt_of_le q166e (Int.ofNat_le.mpr (Nat.min_le_left _ _)); rw [Int.ofNat_toNat] at q166e; have q166g := eq_false (Int.not_le.mpr q166e); replace q166e := eq_true q166e))
                         have hnb70 := NB165_144.out
                         have hnc70 := NB144_165.out
                         have hnb71 := NB165_145.out
                         have hnc71 := NB145_165.out
                         have hcz72_0 : w53.cell? ⟨gb165, 0, none⟩ = some (.int .i64 0) := (blk_cell BK165.out 0).trans rfl
                         have hcz72_1 : w53.cell? ⟨gb165, 1, none⟩ = some (.int .i64 0) := (blk_cell BK165.out 1).trans rfl
                         have hcz72_2 : w53.cell? ⟨gb165, 2, none⟩ = some (.int .i64 0) := (blk_cell BK165.out 2).trans rfl
                         have hcz72_3 : w53.cell? ⟨gb165, 3, none⟩ = some (.int .i64 0) := (blk_cell BK165.out 3).trans rfl
                         have hcz72_4 : w53.cell? ⟨gb165, 4, none⟩ = some (.int .i64 0) := (blk_cell BK165.out 4).trans rfl
                         have hcz72_5 : w53.cell? ⟨gb165, 5, none⟩ = some (.int .i64 0) := (blk_cell BK165.out 5).trans rfl
                         have hcz72_6 : w53.cell? ⟨gb165, 6, none⟩ = some (.int .i64 0) := (blk_cell BK165.out 6).trans rfl
                         have hcz72_7 : w53.cell? ⟨gb165, 7, none⟩ = some (.string (⟨#[]⟩ : ByteArray)) := (blk_cell BK165.out 7).trans rfl
                         have hfz72_0 := blk_frozen BK165.out 0
                         have hfz72_1 := blk_frozen BK165.out 1
                         have hfz72_2 := blk_frozen BK165.out 2
                         have hfz72_3 := blk_frozen BK165.out 3
                         have hfz72_4 := blk_frozen BK165.out 4
                         have hfz72_5 := blk_frozen BK165.out 5
                         have hfz72_6 := blk_frozen BK165.out 6
                         have hfz72_7 := blk_frozen BK165.out 7
                         have p167 : 0 ≤ (2 : Int) := (by omega)
                         have q167 : 2 < (x8_4.length : Int) := of_decide_eq_true (by first | (with_reducible assumption) | assumption)
                         obtain ⟨ad167, e167, hx167_0⟩ := Kd.at_int (Kd.R_reads' HO_8.out).2.2 2 p167 q167
                         obtain rfl : ad164 = ad167 := (by injection e167)
                         (try simp only [show (2 : Int).toNat = 2 from rfl, Nat.reduceMul, Nat.reduceEqDiff, Go.Addr.add, ↓reduceIte] at hx167_0)
                         have qi167 : (2 < x8_4.length) = True := eq_true (by omega)
                         (try rw [show ((2 : Int)).toNat = 2 from rfl] at hx167_0)
                         have hn167_0 : ad164.block ≠ gb165 := Kd.own_blk (Kd.R_ne HO_8.out BK165.out (by decide))
                         have hn167_1 : ad164.block ≠ gb165 := Kd.own_blk (Kd.R_ne HO_8.out BK165.out (by decide))
                         have hn167_2 : ad164.block ≠ gb165 := Kd.own_blk (Kd.R_ne HO_8.out BK165.out (by decide))
                         have hn167_3 : ad164.block ≠ gb165 := Kd.own_blk (Kd.R_ne HO_8.out BK165.out (by decide))
                         have hn167_4 : ad164.block ≠ gb165 := Kd.own_blk (Kd.R_ne HO_8.out BK165.out (by decide))
                         have hn167_5 : ad164.block ≠ gb165 := Kd.own_blk (Kd.R_ne HO_8.out BK165.out (by decide))
                         have hn167_6 : ad164.block ≠ gb165 := Kd.own_blk (Kd.R_ne HO_8.out BK165.out (by decide))
                         have hn167_7 : ad164.block ≠ gb165 := Kd.own_blk (Kd.R_ne HO_8.out BK165.out (by decide))
                         have hn167_8 : ad164.block ≠ gb165 := Kd.own_blk (Kd.R_ne HO_8.out BK165.out (by decide))
                         replace hx167_0 := (cell_far (p := ⟨gb165, 0, none⟩) (by first | (rw [add_block]; exact hn167_0) | (show (Addr.add _ _).block ≠ _; rw [add_block]; exact hn167_0) | exact hn167_0) (.int .i64 (ji30))).trans hx167_0
                         replace hx167_0 := (cell_far (p := ⟨gb165, 1, none⟩) (by first | (rw [add_block]; exact hn167_1) | (show (Addr.add _ _).block ≠ _; rw [add_block]; exact hn167_1) | exact hn167_1) (.int .i64 (rd x8_4 0))).trans hx167_0
                         replace hx167_0 := (cell_far (p := ⟨gb165, 2, none⟩) (by first | (rw [add_block]; exact hn167_2) | (show (Addr.add _ _).block ≠ _; rw [add_block]; exact hn167_2) | exact hn167_2) (.int .i64 0)).trans hx167_0
                         replace hx167_0 := (cell_far (p := ⟨gb165, 3, none⟩) (by first | (rw [add_block]; exact hn167_3) | (show (Addr.add _ _).block ≠ _; rw [add_block]; exact hn167_3) | exact hn167_3) (.int .i64 0)).trans hx167_0
                         replace hx167_0 := (cell_far (p := ⟨gb165, 4, none⟩) (by first | (rw [add_block]; exact hn167_4) | (show (Addr.add _ _).block ≠ _; rw [add_block]; exact hn167_4) | exact hn167_4) (.int .i64 0)).trans hx167_0
                         replace hx167_0 := (cell_far (p := ⟨gb165, 5, none⟩) (by first | (rw [add_block]; exact hn167_5) | (show (Addr.add _ _).block ≠ _; rw [add_block]; exact hn167_5) | exact hn167_5) (.int .i64 0)).trans hx167_0
                         replace hx167_0 := (cell_far (p := ⟨gb165, 6, none⟩) (by first | (rw [add_block]; exact hn167_6) | (show (Addr.add _ _).block ≠ _; rw [add_block]; exact hn167_6) | exact hn167_6) (.int .i64 0)).trans hx167_0
                         replace hx167_0 := (cell_far (p := ⟨gb165, 7, none⟩) (by first | (rw [add_block]; exact hn167_7) | (show (Addr.add _ _).block ≠ _; rw [add_block]; exact hn167_7) | exact hn167_7) (.string (⟨#[]⟩ : ByteArray))).trans hx167_0
                         replace hx167_0 := (cell_far (p := ⟨gb165, 6, none⟩) (by first | (rw [add_block]; exact hn167_8) | (show (Addr.add _ _).block ≠ _; rw [add_block]; exact hn167_8) | exact hn167_8) (.int .i64 (rd x8_4 1))).trans hx167_0
                         clear hn167_0
                         clear hn167_1
                         clear hn167_2
                         clear hn167_3
                         clear hn167_4
                         clear hn167_5
                         clear hn167_6
                         clear hn167_7
                         clear hn167_8
                         replace p167 := eq_true p167
                         replace q167 := eq_true q167
                         (try (have q167d := q167; simp only [List.length_drop] at q167d))
                         (try (have q167e := of_eq_true q167; rw [List.length_take] at q167e; replace q167e := Int.lt_of_lt_of_le q167e (Int.ofNat_le.mpr (Nat.min_le_left _ _)); rw [Int.ofNat_toNat] at q167e; have q167g := eq_false (Int.not_le.mpr q167e); replace q167e := eq_true q167e))
                         have p168 : 0 ≤ (2 : Int) := (by omega)
                         have q168 : 2 < (x8_4.length : Int) := of_decide_eq_true (by first | (with_reducible assumption) | assumption)
                         obtain ⟨ad168, e168, hx168_0⟩ := Kd.at_int (Kd.R_reads' HO_8.out).2.2 2 p168 q168
                         obtain rfl : ad164 = ad168 := (by injection e168)
                         (try simp only [show (2 : Int).toNat = 2 from rfl, Nat.reduceMul, Nat.reduceEqDiff, Go.Addr.add, ↓reduceIte] at hx168_0)
                         have qi168 : (2 < x8_4.length) = True := eq_true (by omega)
                         (try rw [show ((2 : Int)).toNat = 2 from rfl] at hx168_0)
                         have hn168_0 : ad164.block ≠ gb165 := Kd.own_blk (Kd.R_ne HO_8.out BK165.out (by decide))
                         have hn168_1 : ad164.block ≠ gb165 := Kd.own_blk (Kd.R_ne HO_8.out BK165.out (by decide))
                         have hn168_2 : ad164.block ≠ gb165 := Kd.own_blk (Kd.R_ne HO_8.out BK165.out (by decide))
                         have hn168_3 : ad164.block ≠ gb165 := Kd.own_blk (Kd.R_ne HO_8.out BK165.out (by decide))
                         have hn168_4 : ad164.block ≠ gb165 := Kd.own_blk (Kd.R_ne HO_8.out BK165.out (by decide))
                         have hn168_5 : ad164.block ≠ gb165 := Kd.own_blk (Kd.R_ne HO_8.out BK165.out (by decide))
                         have hn168_6 : ad164.block ≠ gb165 := Kd.own_blk (Kd.R_ne HO_8.out BK165.out (by decide))
                         have hn168_7 : ad164.block ≠ gb165 := Kd.own_blk (Kd.R_ne HO_8.out BK165.out (by decide))
                         have hn168_8 : ad164.block ≠ gb165 := Kd.own_blk (Kd.R_ne HO_8.out BK165.out (by decide))
                         replace hx168_0 := (cell_far (p := ⟨gb165, 0, none⟩) (by first | (rw [add_block]; exact hn168_0) | (show (Addr.add _ _).block ≠ _; rw [add_block]; exact hn168_0) | exact hn168_0) (.int .i64 (ji30))).trans hx168_0
                         replace hx168_0 := (cell_far (p := ⟨gb165, 1, none⟩) (by first | (rw [add_block]; exact hn168_1) | (show (Addr.add _ _).block ≠ _; rw [add_block]; exact hn168_1) | exact hn168_1) (.int .i64 (rd x8_4 0))).trans hx168_0
                         replace hx168_0 := (cell_far (p := ⟨gb165, 2, none⟩) (by first | (rw [add_block]; exact hn168_2) | (show (Addr.add _ _).block ≠ _; rw [add_block]; exact hn168_2) | exact hn168_2) (.int .i64 0)).trans hx168_0
                         replace hx168_0 := (cell_far (p := ⟨gb165, 3, none⟩) (by first | (rw [add_block]; exact hn168_3) | (show (Addr.add _ _).block ≠ _; rw [add_block]; exact hn168_3) | exact hn168_3) (.int .i64 0)).trans hx168_0
                         replace hx168_0 := (cell_far (p := ⟨gb165, 4, none⟩) (by first | (rw [add_block]; exact hn168_4) | (show (Addr.add _ _).block ≠ _; rw [add_block]; exact hn168_4) | exact hn168_4) (.int .i64 0)).trans hx168_0
                         replace hx168_0 := (cell_far (p := ⟨gb165, 5, none⟩) (by first | (rw [add_block]; exact hn168_5) | (show (Addr.add _ _).block ≠ _; rw [add_block]; exact hn168_5) | exact hn168_5) (.int .i64 0)).trans hx168_0
                         replace hx168_0 := (cell_far (p := ⟨gb165, 6, none⟩) (by first | (rw [add_block]; exact hn168_6) | (show (Addr.add _ _).block ≠ _; rw [add_block]; exact hn168_6) | exact hn168_6) (.int .i64 0)).trans hx168_0
                         replace hx168_0 := (cell_far (p := ⟨gb165, 7, none⟩) (by first | (rw [add_block]; exact hn168_7) | (show (Addr.add _ _).block ≠ _; rw [add_block]; exact hn168_7) | exact hn168_7) (.string (⟨#[]⟩ : ByteArray))).trans hx168_0
                         replace hx168_0 := (cell_far (p := ⟨gb165, 6, none⟩) (by first | (rw [add_block]; exact hn168_8) | (show (Addr.add _ _).block ≠ _; rw [add_block]; exact hn168_8) | exact hn168_8) (.int .i64 (rd x8_4 1))).trans hx168_0
                         clear hn168_0
                         clear hn168_1
                         clear hn168_2
                         clear hn168_3
                         clear hn168_4
                         clear hn168_5
                         clear hn168_6
                         clear hn168_7
                         clear hn168_8
                         replace p168 := eq_true p168
                         replace q168 := eq_true q168
                         (try (have q168d := q168; simp only [List.length_drop] at q168d))
                         (try (have q168e := of_eq_true q168; rw [List.length_take] at q168e; replace q168e := Int.lt_of_lt_of_le q168e (Int.ofNat_le.mpr (Nat.min_le_left _ _)); rw [Int.ofNat_toNat] at q168e; have q168g := eq_false (Int.not_le.mpr q168e); replace q168e := eq_true q168e))
                         obtain ⟨i073, hi073, _, hsz73, _⟩ := info_parts info5
                         obtain ⟨A73, hcut73, hA73, hC73⟩ := print_mid_of (P := Try.prog) (Value.int .u8) 0 27 5 .i64 .i64 Try.underlying27 hi073 hsz73 (some ad148) c0 yy17 x9_4 (wrap64 (x9_4 + (rd x8_4 2))) (of_decide_eq_true (by first | (with_reducible assumption) | assumption)) (by first | omega | exact of_decide_eq_true (by first | (with_reducible assumption) | assumption)) (of_decide_eq_true (by first | (with_reducible assumption) | assumption)) HC146.out
                         have HR169 := zM (Kd.C_of_reads (h1 := fun _ => rfl) (hA73 _ (Kd.reads_of_C HR146.out)))
                         have HC169 := zM hC73
                         clear hA73 hC73 hi073 hsz73
                         have hcv74 := Kd.C_string (P := Try.prog) (A := A73) (c := (c0 - x9_4.toNat)) Try.underlying27 Try.underlying5 Try.underlying9 (Kd.C_below HR169.out HB.out)
                         obtain ⟨yy73, hyy73⟩ : ∃ y_ : List Int, y_ = ((yy17.take ((wrap64 (x9_4 + (rd x8_4 2))) : Int).toNat).drop (x9_4 : Int).toNat) := ⟨_, rfl⟩
                         (try rw [← hyy73] at hcut73)
                         (try rw [← hyy73] at hcv74)
                         (try rw [← hyy73] at HC146)
                         (try rw [← hyy73] at H')
                         (try rw [← hyy73] at A24)
                         (try rw [← hyy73] at HC25)
                         (try rw [← hyy73] at H')
                         (try rw [← hyy73] at H')
                         (try rw [← hyy73] at A39)
                         (try rw [← hyy73] at H')
                         (try rw [← hyy73] at HC51)
                         (try rw [← hyy73] at H')
                         (try rw [← hyy73] at HR169)
                         (try rw [← hyy73] at HC169)
                         have Nyy73 := zM hyy73
                         clear hyy73
                         have p170 : 0 ≤ (2 : Int) := (by omega)
                         have q170 : 2 < (x8_4.length : Int) := of_decide_eq_true (by first | (with_reducible assumption) | assumption)
                         obtain ⟨ad170, e170, hx170_0⟩ := Kd.at_int (Kd.R_reads' HO_8.out).2.2 2 p170 q170
                         obtain rfl : ad164 = ad170 := (by injection e170)
                         (try simp only [show (2 : Int).toNat = 2 from rfl, Nat.reduceMul, Nat.reduceEqDiff, Go.Addr.add, ↓reduceIte] at hx170_0)
                         have qi170 : (2 < x8_4.length) = True := eq_true (by omega)
                         (try rw [show ((2 : Int)).toNat = 2 from rfl] at hx170_0)
                         have hn170_0 : ad164.block ≠ gb165 := Kd.own_blk (Kd.R_ne HO_8.out BK165.out (by decide))
                         have hn170_1 : ad164.block ≠ gb165 := Kd.own_blk (Kd.R_ne HO_8.out BK165.out (by decide))
                         have hn170_2 : ad164.block ≠ gb165 := Kd.own_blk (Kd.R_ne HO_8.out BK165.out (by decide))
                         have hn170_3 : ad164.block ≠ gb165 := Kd.own_blk (Kd.R_ne HO_8.out BK165.out (by decide))
                         have hn170_4 : ad164.block ≠ gb165 := Kd.own_blk (Kd.R_ne HO_8.out BK165.out (by decide))
                         have hn170_5 : ad164.block ≠ gb165 := Kd.own_blk (Kd.R_ne HO_8.out BK165.out (by decide))
                         have hn170_6 : ad164.block ≠ gb165 := Kd.own_blk (Kd.R_ne HO_8.out BK165.out (by decide))
                         have hn170_7 : ad164.block ≠ gb165 := Kd.own_blk (Kd.R_ne HO_8.out BK165.out (by decide))
                         have hn170_8 : ad164.block ≠ gb165 := Kd.own_blk (Kd.R_ne HO_8.out BK165.out (by decide))
                         have hn170_9 : ad164.block ≠ gb165 := Kd.own_blk (Kd.R_ne HO_8.out BK165.out (by decide))
                         replace hx170_0 := (cell_far (p := ⟨gb165, 0, none⟩) (by first | (rw [add_block]; exact hn170_0) | (show (Addr.add _ _).block ≠ _; rw [add_block]; exact hn170_0) | exact hn170_0) (.int .i64 (ji30))).trans hx170_0
                         replace hx170_0 := (cell_far (p := ⟨gb165, 1, none⟩) (by first | (rw [add_block]; exact hn170_1) | (show (Addr.add _ _).block ≠ _; rw [add_block]; exact hn170_1) | exact hn170_1) (.int .i64 (rd x8_4 0))).trans hx170_0
                         replace hx170_0 := (cell_far (p := ⟨gb165, 2, none⟩) (by first | (rw [add_block]; exact hn170_2) | (show (Addr.add _ _).block ≠ _; rw [add_block]; exact hn170_2) | exact hn170_2) (.int .i64 0)).trans hx170_0
                         replace hx170_0 := (cell_far (p := ⟨gb165, 3, none⟩) (by first | (rw [add_block]; exact hn170_3) | (show (Addr.add _ _).block ≠ _; rw [add_block]; exact hn170_3) | exact hn170_3) (.int .i64 0)).trans hx170_0
                         replace hx170_0 := (cell_far (p := ⟨gb165, 4, none⟩) (by first | (rw [add_block]; exact hn170_4) | (show (Addr.add _ _).block ≠ _; rw [add_block]; exact hn170_4) | exact hn170_4) (.int .i64 0)).trans hx170_0
                         replace hx170_0 := (cell_far (p := ⟨gb165, 5, none⟩) (by first | (rw [add_block]; exact hn170_5) | (show (Addr.add _ _).block ≠ _; rw [add_block]; exact hn170_5) | exact hn170_5) (.int .i64 0)).trans hx170_0
                         replace hx170_0 := (cell_far (p := ⟨gb165, 6, none⟩) (by first | (rw [add_block]; exact hn170_6) | (show (Addr.add _ _).block ≠ _; rw [add_block]; exact hn170_6) | exact hn170_6) (.int .i64 0)).trans hx170_0
                         replace hx170_0 := (cell_far (p := ⟨gb165, 7, none⟩) (by first | (rw [add_block]; exact hn170_7) | (show (Addr.add _ _).block ≠ _; rw [add_block]; exact hn170_7) | exact hn170_7) (.string (⟨#[]⟩ : ByteArray))).trans hx170_0
                         replace hx170_0 := (cell_far (p := ⟨gb165, 6, none⟩) (by first | (rw [add_block]; exact hn170_8) | (show (Addr.add _ _).block ≠ _; rw [add_block]; exact hn170_8) | exact hn170_8) (.int .i64 (rd x8_4 1))).trans hx170_0
                         replace hx170_0 := (cell_far (p := ⟨gb165, 7, none⟩) (by first | (rw [add_block]; exact hn170_9) | (show (Addr.add _ _).block ≠ _; rw [add_block]; exact hn170_9) | exact hn170_9) (.string (strOfNums yy73))).trans hx170_0
                         clear hn170_0
                         clear hn170_1
                         clear hn170_2
                         clear hn170_3
                         clear hn170_4
                         clear hn170_5
                         clear hn170_6
                         clear hn170_7
                         clear hn170_8
                         clear hn170_9
                         replace p170 := eq_true p170
                         replace q170 := eq_true q170
                         (try (have q170d := q170; simp only [List.length_drop] at q170d))
                         (try (have q170e := of_eq_true q170; rw [List.length_take] at q170e; replace q170e := Int.lt_of_lt_of_le q170e (Int.ofNat_le.mpr (Nat.min_le_left _ _)); rw [Int.ofNat_toNat] at q170e; have q170g := eq_false (Int.not_le.mpr q170e); replace q170e := eq_true q170e))
                         go_wp2
                         (try (rw [Kd.C_string (P := Try.prog) (A := A73) (c := (c0 - x9_4.toNat)) Try.underlying27 Try.underlying5 Try.underlying9 (Kd.C_below HR169.out ?hb)]; (case hb => repeat (first | (with_reducible first | exact HB.out | apply bE | apply bD | apply bF | refine below_set ?_ GE144.out | refine below_set ?_ GE145.out | refine below_set ?_ GE165.out) | exact HB.out)); go_wp2))
                         go_meet
                         case rel => exact ⟨_, (wrap64 (x9_4 + (rd x8_4 2))), (x145000_4), (x145001_4), (x145002_4), (x145003_4), (x145004_4), (x145005_4), (x145006_4), (x145007_4), (0), (0), (0), (0), (rd x8_4 1), (strOfNums yy73), (by first | rfl | (simp; done) | (simp [*]; done)), H', ⟨by have := HJ1.out; have := HJ15.out; have := HJ24.out; have := HK4.out; first | omega | exact Nat.le_refl _⟩, ⟨by (with_reducible repeat (first | refine bA ?_ _ | refine bB ?_ | refine bC ?_ _)); refine blk_far ?_ NB144_165.out _; (with_reducible repeat (first | refine bA ?_ _ | refine bB ?_ | refine bC ?_ _)); refine blk_far ?_ NB144_165.out _; (with_reducible repeat (first | refine bA ?_ _ | refine bB ?_ | refine bC ?_ _)); refine blk_far ?_ NB144_165.out _; (with_reducible repeat (first | refine bA ?_ _ | refine bB ?_ | refine bC ?_ _)); refine blk_far ?_ NB144_165.out _; (with_reducible repeat (first | refine bA ?_ _ | refine bB ?_ | refine bC ?_ _)); refine blk_far ?_ NB144_165.out _; (with_reducible repeat (first | refine bA ?_ _ | refine bB ?_ | refine bC ?_ _)); refine blk_far ?_ NB144_165.out _; (with_reducible repeat (first | refine bA ?_ _ | refine bB ?_ | refine bC ?_ _)); refine blk_far ?_ NB144_165.out _; (with_reducible repeat (first | refine bA ?_ _ | refine bB ?_ | refine bC ?_ _)); refine blk_far ?_ NB144_165.out _; (with_reducible repeat (first | refine bA ?_ _ | refine bB ?_ | refine bC ?_ _)); refine blk_far ?_ NB144_165.out _; (with_reducible repeat (first | refine bA ?_ _ | refine bB ?_ | refine bC ?_ _)); refine blk_far ?_ NB144_165.out _; (with_reducible repeat (first | refine bA ?_ _ | refine bB ?_ | refine bC ?_ _)); exact BK144.out⟩, ⟨by (with_reducible repeat (first | refine bA ?_ _ | refine bB ?_ | refine bC ?_ _)); refine blk_far ?_ NB145_165.out _; (with_reducible repeat (first | refine bA ?_ _ | refine bB ?_ | refine bC ?_ _)); refine blk_far ?_ NB145_165.out _; (with_reducible repeat (first | refine bA ?_ _ | refine bB ?_ | refine bC ?_ _)); refine blk_far ?_ NB145_165.out _; (with_reducible repeat (first | refine bA ?_ _ | refine bB ?_ | refine bC ?_ _)); refine blk_far ?_ NB145_165.out _; (with_reducible repeat (first | refine bA ?_ _ | refine bB ?_ | refine bC ?_ _)); refine blk_far ?_ NB145_165.out _; (with_reducible repeat (first | refine bA ?_ _ | refine bB ?_ | refine bC ?_ _)); refine blk_far ?_ NB145_165.out _; (with_reducible repeat (first | refine bA ?_ _ | refine bB ?_ | refine bC ?_ _)); refine blk_far ?_ NB145_165.out _; (with_reducible repeat (first | refine bA ?_ _ | refine bB ?_ | refine bC ?_ _)); refine blk_far ?_ NB145_165.out _; (with_reducible repeat (first | refine bA ?_ _ | refine bB ?_ | refine bC ?_ _)); refine blk_far ?_ NB145_165.out _; (with_reducible repeat (first | refine bA ?_ _ | refine bB ?_ | refine bC ?_ _)); refine blk_far ?_ NB145_165.out _; (with_reducible repeat (first | refine bA ?_ _ | refine bB ?_ | refine bC ?_ _)); exact BK145.out⟩, ⟨by (with_reducible repeat (first | refine bA ?_ _ | refine bB ?_ | refine bC ?_ _)); refine bH (cs := #[.int .i64 (ji30), .int .i64 (rd x8_4 0), .int .i64 0, .int .i64 0, .int .i64 0, .int .i64 0, .int .i64 (rd x8_4 1), .string (⟨#[]⟩ : ByteArray)]) ?_ 7 _ rfl; (with_reducible repeat (first | refine bA ?_ _ | refine bB ?_ | refine bC ?_ _)); refine bH (cs := #[.int .i64 (ji30), .int .i64 (rd x8_4 0), .int .i64 0, .int .i64 0, .int .i64 0, .int .i64 0, .int .i64 0, .string (⟨#[]⟩ : ByteArray)]) ?_ 6 _ rfl; (with_reducible repeat (first | refine bA ?_ _ | refine bB ?_ | refine bC ?_ _)); refine bH (cs := #[.int .i64 (ji30), .int .i64 (rd x8_4 0), .int .i64 0, .int .i64 0, .int .i64 0, .int .i64 0, .int .i64 0, .string (⟨#[]⟩ : ByteArray)]) ?_ 7 _ rfl; (with_reducible repeat (first | refine bA ?_ _ | refine bB ?_ | refine bC ?_ _)); refine bH (cs := #[.int .i64 (ji30), .int .i64 (rd x8_4 0), .int .i64 0, .int .i64 0, .int .i64 0, .int .i64 0, .int .i64 0, .string (⟨#[]⟩ : ByteArray)]) ?_ 6 _ rfl; (with_reducible repeat (first | refine bA ?_ _ | refine bB ?_ | refine bC ?_ _)); refine bH (cs := #[.int .i64 (ji30), .int .i64 (rd x8_4 0), .int .i64 0, .int .i64 0, .int .i64 0, .int .i64 0, .int .i64 0, .string (⟨#[]⟩ : ByteArray)]) ?_ 5 _ rfl; (with_reducible repeat (first | refine bA ?_ _ | refine bB ?_ | refine bC ?_ _)); refine bH (cs := #[.int .i64 (ji30), .int .i64 (rd x8_4 0), .int .i64 0, .int .i64 0, .int .i64 0, .int .i64 0, .int .i64 0, .string (⟨#[]⟩ : ByteArray)]) ?_ 4 _ rfl; (with_reducible repeat (first | refine bA ?_ _ | refine bB ?_ | refine bC ?_ _)); refine bH (cs := #[.int .i64 (ji30), .int .i64 (rd x8_4 0), .int .i64 0, .int .i64 0, .int .i64 0, .int .i64 0, .int .i64 0, .string (⟨#[]⟩ : ByteArray)]) ?_ 3 _ rfl; (with_reducible repeat (first | refine bA ?_ _ | refine bB ?_ | refine bC ?_ _)); refine bH (cs := #[.int .i64 (ji30), .int .i64 (rd x8_4 0), .int .i64 0, .int .i64 0, .int .i64 0, .int .i64 0, .int .i64 0, .string (⟨#[]⟩ : ByteArray)]) ?_ 2 _ rfl; (with_reducible repeat (first | refine bA ?_ _ | refine bB ?_ | refine bC ?_ _)); refine bH (cs := #[.int .i64 (ji30), .int .i64 0, .int .i64 0, .int .i64 0, .int .i64 0, .int .i64 0, .int .i64 0, .string (⟨#[]⟩ : ByteArray)]) ?_ 1 _ rfl; (with_reducible repeat (first | refine bA ?_ _ | refine bB ?_ | refine bC ?_ _)); refine bH (cs := #[.int .i64 0, .int .i64 0, .int .i64 0, .int .i64 0, .int .i64 0, .int .i64 0, .int .i64 0, .string (⟨#[]⟩ : ByteArray)]) ?_ 0 _ rfl; (with_reducible repeat (first | refine bA ?_ _ | refine bB ?_ | refine bC ?_ _)); exact BK165.out⟩, ⟨by repeat (first | (with_reducible first | exact HB.out | apply bE | apply bD | apply bF | refine below_set ?_ GE144.out | refine below_set ?_ GE145.out | refine below_set ?_ GE165.out) | exact HB.out)⟩⟩
                        ·rw [if_neg c69] at H
                         exact absurd H (by simp)
                       ·rw [if_neg c68] at H
                        exact absurd H (by simp)
                      ·rw [if_neg c67] at H
                       exact absurd H (by simp)
                    ·rw [if_neg c59] at H
                     exact absurd H (by simp)
                   ·rw [if_neg c58] at H
                    exact absurd H (by simp)
                  ·rw [if_neg c57] at H
                   have c57b0 : ((ji30) == 3) = false := beq_eq_false_iff_ne.mpr c57
                   have c57b1 : ((ji30) != 3) = true := bne_iff_ne.mpr c57
                   (first | rw [c57b0] | (simp only [i64_w, i32_w]; rw [c57b0]) | skip)
                   by_cases c75 : (ji30) = 2
                   ·rw [if_pos c75] at H
                    have c75b0 : ((ji30) == 2) = true := beq_iff_eq.mpr c75
                    have c75b1 : ((ji30) != 2) = false := bne_eq_false_iff_eq.mpr c75
                    clear c75
                    by_cases c76 : 1 < (x8_4.length : Int)
                    ·rw [if_pos c76] at H
                     have c76b0 : decide (1 < (x8_4.length : Int)) = true := decide_eq_true c76
                     have c76b1 : decide (1 < x8_4.length) = true := decide_eq_true (by omega)
                     clear c76
                     by_cases c77 : 2 < (x8_4.length : Int)
                     ·rw [if_pos c77] at H
                      have c77b0 : decide (2 < (x8_4.length : Int)) = true := decide_eq_true c77
                      have c77b1 : decide (2 < x8_4.length) = true := decide_eq_true (by omega)
                      clear c77
                      by_cases c78 : 3 < (x8_4.length : Int)
                      ·rw [if_pos c78] at H
                       have c78b0 : decide (3 < (x8_4.length : Int)) = true := decide_eq_true c78
                       have c78b1 : decide (3 < x8_4.length) = true := decide_eq_true (by omega)
                       clear c78
                       replace H := zO H
                       obtain ⟨t174, A790, H⟩ := H
                       replace H : (if 4 < (x8_4.length : Int) then ((spec_l4End.f (rd x8_4 4)).bind fun t176 => (spec_Unpack.j4 k4 yy17 x9_4 0 0 0 0 0 0 0 (⟨#[]⟩ : ByteArray) (ji30) (rd x8_4 0) (rd x8_4 1) (rd x8_4 2) t174 t176 0 (⟨#[]⟩ : ByteArray))) else (none)) = some (r1, r2, r3, r4, r5, r6, r7, r8, r9) := H
                       have A79 := zM A790
                       clear A790
                       by_cases c80 : 4 < (x8_4.length : Int)
                       ·rw [if_pos c80] at H
                        have c80b0 : decide (4 < (x8_4.length : Int)) = true := decide_eq_true c80
                        have c80b1 : decide (4 < x8_4.length) = true := decide_eq_true (by omega)
                        clear c80
                        replace H := zO H
                        obtain ⟨t176, A810, H⟩ := H
                        replace H : (spec_Unpack.j4 k4 yy17 x9_4 0 0 0 0 0 0 0 (⟨#[]⟩ : ByteArray) (ji30) (rd x8_4 0) (rd x8_4 1) (rd x8_4 2) t174 t176 0 (⟨#[]⟩ : ByteArray)) = some (r1, r2, r3, r4, r5, r6, r7, r8, r9) := H
                        have A81 := zM A810
                        clear A810
                        have H' := zM H
                        clear H
                        have p171 : 0 ≤ (1 : Int) := (by omega)
                        have q171 : 1 < (x8_4.length : Int) := of_decide_eq_true (by first | (with_reducible assumption) | assumption)
                        obtain ⟨ad171, e171, hx171_0⟩ := Kd.at_int (Kd.R_reads' HO_8.out).2.2 1 p171 q171
                        obtain rfl : ad164 = ad171 := (by injection e171)
                        (try simp only [show (1 : Int).toNat = 1 from rfl, Nat.reduceMul, Nat.reduceEqDiff, Go.Addr.add, ↓reduceIte] at hx171_0)
                        have qi171 : (1 < x8_4.length) = True := eq_true (by omega)
                        (try rw [show ((1 : Int)).toNat = 1 from rfl] at hx171_0)
                        have hn171_0 : ad164.block ≠ gb165 := Kd.own_blk (Kd.R_ne HO_8.out BK165.out (by decide))
                        have hn171_1 : ad164.block ≠ gb165 := Kd.own_blk (Kd.R_ne HO_8.out BK165.out (by decide))
                        have hn171_2 : ad164.block ≠ gb165 := Kd.own_blk (Kd.R_ne HO_8.out BK165.out (by decide))
                        have hn171_3 : ad164.block ≠ gb165 := Kd.own_blk (Kd.R_ne HO_8.out BK165.out (by decide))
                        have hn171_4 : ad164.block ≠ gb165 := Kd.own_blk (Kd.R_ne HO_8.out BK165.out (by decide))
                        have hn171_5 : ad164.block ≠ gb165 := Kd.own_blk (Kd.R_ne HO_8.out BK165.out (by decide))
                        have hn171_6 : ad164.block ≠ gb165 := Kd.own_blk (Kd.R_ne HO_8.out BK165.out (by decide))
                        have hn171_7 : ad164.block ≠ gb165 := Kd.own_blk (Kd.R_ne HO_8.out BK165.out (by decide))
                        replace hx171_0 := (cell_far (p := ⟨gb165, 0, none⟩) (by first | (rw [add_block]; exact hn171_0) | (show (Addr.add _ _).block ≠ _; rw [add_block]; exact hn171_0) | exact hn171_0) (.int .i64 (ji30))).trans hx171_0
                        replace hx171_0 := (cell_far (p := ⟨gb165, 1, none⟩) (by first | (rw [add_block]; exact hn171_1) | (show (Addr.add _ _).block ≠ _; rw [add_block]; exact hn171_1) | exact hn171_1) (.int .i64 (rd x8_4 0))).trans hx171_0
                        replace hx171_0 := (cell_far (p := ⟨gb165, 2, none⟩) (by first | (rw [add_block]; exact hn171_2) | (show (Addr.add _ _).block ≠ _; rw [add_block]; exact hn171_2) | exact hn171_2) (.int .i64 0)).trans hx171_0
                        replace hx171_0 := (cell_far (p := ⟨gb165, 3, none⟩) (by first | (rw [add_block]; exact hn171_3) | (show (Addr.add _ _).block ≠ _; rw [add_block]; exact hn171_3) | exact hn171_3) (.int .i64 0)).trans hx171_0
                        replace hx171_0 := (cell_far (p := ⟨gb165, 4, none⟩) (by first | (rw [add_block]; exact hn171_4) | (show (Addr.add _ _).block ≠ _; rw [add_block]; exact hn171_4) | exact hn171_4) (.int .i64 0)).trans hx171_0
                        replace hx171_0 := (cell_far (p := ⟨gb165, 5, none⟩) (by first | (rw [add_block]; exact hn171_5) | (show (Addr.add _ _).block ≠ _; rw [add_block]; exact hn171_5) | exact hn171_5) (.int .i64 0)).trans hx171_0
                        replace hx171_0 := (cell_far (p := ⟨gb165, 6, none⟩) (by first | (rw [add_block]; exact hn171_6) | (show (Addr.add _ _).block ≠ _; rw [add_block]; exact hn171_6) | exact hn171_6) (.int .i64 0)).trans hx171_0
                        replace hx171_0 := (cell_far (p := ⟨gb165, 7, none⟩) (by first | (rw [add_block]; exact hn171_7) | (show (Addr.add _ _).block ≠ _; rw [add_block]; exact hn171_7) | exact hn171_7) (.string (⟨#[]⟩ : ByteArray))).trans hx171_0
                        clear hn171_0
                        clear hn171_1
                        clear hn171_2
                        clear hn171_3
                        clear hn171_4
                        clear hn171_5
                        clear hn171_6
                        clear hn171_7
                        replace p171 := eq_true p171
                        replace q171 := eq_true q171
                        (try (have q171d := q171; simp only [List.length_drop] at q171d))
                        (try (have q171e := of_eq_true q171; rw [List.length_take] at q171e; replace q171e := Int.lt_of_lt_of_le q171e (Int.ofNat_le.mpr (Nat.min_le_left _ _)); rw [Int.ofNat_toNat] at q171e; have q171g := eq_false (Int.not_le.mpr q171e); replace q171e := eq_true q171e))
                        have hnb82 := NB165_144.out
                        have hnc82 := NB144_165.out
                        have hnb83 := NB165_145.out
                        have hnc83 := NB145_165.out
                        have hcz84_0 : w53.cell? ⟨gb165, 0, none⟩ = some (.int .i64 0) := (blk_cell BK165.out 0).trans rfl
                        have hcz84_1 : w53.cell? ⟨gb165, 1, none⟩ = some (.int .i64 0) := (blk_cell BK165.out 1).trans rfl
                        have hcz84_2 : w53.cell? ⟨gb165, 2, none⟩ = some (.int .i64 0) := (blk_cell BK165.out 2).trans rfl
                        have hcz84_3 : w53.cell? ⟨gb165, 3, none⟩ = some (.int .i64 0) := (blk_cell BK165.out 3).trans rfl
                        have hcz84_4 : w53.cell? ⟨gb165, 4, none⟩ = some (.int .i64 0) := (blk_cell BK165.out 4).trans rfl
                        have hcz84_5 : w53.cell? ⟨gb165, 5, none⟩ = some (.int .i64 0) := (blk_cell BK165.out 5).trans rfl
                        have hcz84_6 : w53.cell? ⟨gb165, 6, none⟩ = some (.int .i64 0) := (blk_cell BK165.out 6).trans rfl
                        have hcz84_7 : w53.cell? ⟨gb165, 7, none⟩ = some (.string (⟨#[]⟩ : ByteArray)) := (blk_cell BK165.out 7).trans rfl
                        have hfz84_0 := blk_frozen BK165.out 0
                        have hfz84_1 := blk_frozen BK165.out 1
                        have hfz84_2 := blk_frozen BK165.out 2
                        have hfz84_3 := blk_frozen BK165.out 3
                        have hfz84_4 := blk_frozen BK165.out 4
                        have hfz84_5 := blk_frozen BK165.out 5
                        have hfz84_6 := blk_frozen BK165.out 6
                        have hfz84_7 := blk_frozen BK165.out 7
                        have p172 : 0 ≤ (2 : Int) := (by omega)
                        have q172 : 2 < (x8_4.length : Int) := of_decide_eq_true (by first | (with_reducible assumption) | assumption)
                        obtain ⟨ad172, e172, hx172_0⟩ := Kd.at_int (Kd.R_reads' HO_8.out).2.2 2 p172 q172
                        obtain rfl : ad164 = ad172 := (by injection e172)
                        (try simp only [show (2 : Int).toNat = 2 from rfl, Nat.reduceMul, Nat.reduceEqDiff, Go.Addr.add, ↓reduceIte] at hx172_0)
                        have qi172 : (2 < x8_4.length) = True := eq_true (by omega)
                        (try rw [show ((2 : Int)).toNat = 2 from rfl] at hx172_0)
                        have hn172_0 : ad164.block ≠ gb165 := Kd.own_blk (Kd.R_ne HO_8.out BK165.out (by decide))
                        have hn172_1 : ad164.block ≠ gb165 := Kd.own_blk (Kd.R_ne HO_8.out BK165.out (by decide))
                        have hn172_2 : ad164.block ≠ gb165 := Kd.own_blk (Kd.R_ne HO_8.out BK165.out (by decide))
                        have hn172_3 : ad164.block ≠ gb165 := Kd.own_blk (Kd.R_ne HO_8.out BK165.out (by decide))
                        have hn172_4 : ad164.block ≠ gb165 := Kd.own_blk (Kd.R_ne HO_8.out BK165.out (by decide))
                        have hn172_5 : ad164.block ≠ gb165 := Kd.own_blk (Kd.R_ne HO_8.out BK165.out (by decide))
                        have hn172_6 : ad164.block ≠ gb165 := Kd.own_blk (Kd.R_ne HO_8.out BK165.out (by decide))
                        have hn172_7 : ad164.block ≠ gb165 := Kd.own_blk (Kd.R_ne HO_8.out BK165.out (by decide))
                        have hn172_8 : ad164.block ≠ gb165 := Kd.own_blk (Kd.R_ne HO_8.out BK165.out (by decide))
                        replace hx172_0 := (cell_far (p := ⟨gb165, 0, none⟩) (by first | (rw [add_block]; exact hn172_0) | (show (Addr.add _ _).block ≠ _; rw [add_block]; exact hn172_0) | exact hn172_0) (.int .i64 (ji30))).trans hx172_0
                        replace hx172_0 := (cell_far (p := ⟨gb165, 1, none⟩) (by first | (rw [add_block]; exact hn172_1) | (show (Addr.add _ _).block ≠ _; rw [add_block]; exact hn172_1) | exact hn172_1) (.int .i64 (rd x8_4 0))).trans hx172_0
                        replace hx172_0 := (cell_far (p := ⟨gb165, 2, none⟩) (by first | (rw [add_block]; exact hn172_2) | (show (Addr.add _ _).block ≠ _; rw [add_block]; exact hn172_2) | exact hn172_2) (.int .i64 0)).trans hx172_0
                        replace hx172_0 := (cell_far (p := ⟨gb165, 3, none⟩) (by first | (rw [add_block]; exact hn172_3) | (show (Addr.add _ _).block ≠ _; rw [add_block]; exact hn172_3) | exact hn172_3) (.int .i64 0)).trans hx172_0
                        replace hx172_0 := (cell_far (p := ⟨gb165, 4, none⟩) (by first | (rw [add_block]; exact hn172_4) | (show (Addr.add _ _).block ≠ _; rw [add_block]; exact hn172_4) | exact hn172_4) (.int .i64 0)).trans hx172_0
                        replace hx172_0 := (cell_far (p := ⟨gb165, 5, none⟩) (by first | (rw [add_block]; exact hn172_5) | (show (Addr.add _ _).block ≠ _; rw [add_block]; exact hn172_5) | exact hn172_5) (.int .i64 0)).trans hx172_0
                        replace hx172_0 := (cell_far (p := ⟨gb165, 6, none⟩) (by first | (rw [add_block]; exact hn172_6) | (show (Addr.add _ _).block ≠ _; rw [add_block]; exact hn172_6) | exact hn172_6) (.int .i64 0)).trans hx172_0
                        replace hx172_0 := (cell_far (p := ⟨gb165, 7, none⟩) (by first | (rw [add_block]; exact hn172_7) | (show (Addr.add _ _).block ≠ _; rw [add_block]; exact hn172_7) | exact hn172_7) (.string (⟨#[]⟩ : ByteArray))).trans hx172_0
                        replace hx172_0 := (cell_far (p := ⟨gb165, 2, none⟩) (by first | (rw [add_block]; exact hn172_8) | (show (Addr.add _ _).block ≠ _; rw [add_block]; exact hn172_8) | exact hn172_8) (.int .i64 (rd x8_4 1))).trans hx172_0
                        clear hn172_0
                        clear hn172_1
                        clear hn172_2
                        clear hn172_3
                        clear hn172_4
                        clear hn172_5
                        clear hn172_6
                        clear hn172_7
                        clear hn172_8
                        replace p172 := eq_true p172
                        replace q172 := eq_true q172
                        (try (have q172d := q172; simp only [List.length_drop] at q172d))
                        (try (have q172e := of_eq_true q172; rw [List.length_take] at q172e; replace q172e := Int.lt_of_lt_of_le q172e (Int.ofNat_le.mpr (Nat.min_le_left _ _)); rw [Int.ofNat_toNat] at q172e; have q172g := eq_false (Int.not_le.mpr q172e); replace q172e := eq_true q172e))
                        try go_wp2
                        have n0_ : Aside0 (Kd.R (Kd.int .i64) 3 ((((((((((w53.setCell ⟨gb165, 0, none⟩ (.int .i64 (ji30))).setCell ⟨gb165, 1, none⟩ (.int .i64 (rd x8_4 0))).setCell ⟨gb165, 2, none⟩ (.int .i64 0)).setCell ⟨gb165, 3, none⟩ (.int .i64 0)).setCell ⟨gb165, 4, none⟩ (.int .i64 0)).setCell ⟨gb165, 5, none⟩ (.int .i64 0)).setCell ⟨gb165, 6, none⟩ (.int .i64 0)).setCell ⟨gb165, 7, none⟩ (.string (⟨#[]⟩ : ByteArray))).setCell ⟨gb165, 2, none⟩ (.int .i64 (rd x8_4 1))).setCell ⟨gb165, 3, none⟩ (.int .i64 (rd x8_4 2))) w.heap.size (fun _ => True) (.slice (some ad164) x8_4.length co52) x8_4) := ⟨by (with_reducible repeat (first | apply Kd.R_alloc | apply Kd.R_drewN | apply Kd.R_drew)); exact Kd.R_mono (Kd.R_far (p := ⟨gb165, 3, none⟩) (Kd.R_far (p := ⟨gb165, 2, none⟩) (Kd.R_far (p := ⟨gb165, 7, none⟩) (Kd.R_far (p := ⟨gb165, 6, none⟩) (Kd.R_far (p := ⟨gb165, 5, none⟩) (Kd.R_far (p := ⟨gb165, 4, none⟩) (Kd.R_far (p := ⟨gb165, 3, none⟩) (Kd.R_far (p := ⟨gb165, 2, none⟩) (Kd.R_far (p := ⟨gb165, 1, none⟩) (Kd.R_far (p := ⟨gb165, 0, none⟩) (Kd.R_types HO_8.out BK165.out (by decide)) (fun _ hk => hk.2) (.int .i64 (ji30))) (fun _ hk => hk.2) (.int .i64 (rd x8_4 0))) (fun _ hk => hk.2) (.int .i64 0)) (fun _ hk => hk.2) (.int .i64 0)) (fun _ hk => hk.2) (.int .i64 0)) (fun _ hk => hk.2) (.int .i64 0)) (fun _ hk => hk.2) (.int .i64 0)) (fun _ hk => hk.2) (.string (⟨#[]⟩ : ByteArray))) (fun _ hk => hk.2) (.int .i64 (rd x8_4 1))) (fun _ hk => hk.2) (.int .i64 (rd x8_4 2))) (fun _ hk => trivial)⟩
                        have n1_ : Aside0 (((((((((((w53.setCell ⟨gb165, 0, none⟩ (.int .i64 (ji30))).setCell ⟨gb165, 1, none⟩ (.int .i64 (rd x8_4 0))).setCell ⟨gb165, 2, none⟩ (.int .i64 0)).setCell ⟨gb165, 3, none⟩ (.int .i64 0)).setCell ⟨gb165, 4, none⟩ (.int .i64 0)).setCell ⟨gb165, 5, none⟩ (.int .i64 0)).setCell ⟨gb165, 6, none⟩ (.int .i64 0)).setCell ⟨gb165, 7, none⟩ (.string (⟨#[]⟩ : ByteArray))).setCell ⟨gb165, 2, none⟩ (.int .i64 (rd x8_4 1))).setCell ⟨gb165, 3, none⟩ (.int .i64 (rd x8_4 2))).heap[gb144]? = some (.cells #[.int .i64 x145000_4, .int .i64 x145001_4, .int .i64 x145002_4, .int .i64 x145003_4, .int .i64 x145004_4, .int .i64 x145005_4, .int .i64 x145006_4, .string x145007_4] 32 (0, 0))) := ⟨by (with_reducible repeat (first | refine bA ?_ _ | refine bB ?_ | refine bC ?_ _)); refine blk_far ?_ NB144_165.out _; (with_reducible repeat (first | refine bA ?_ _ | refine bB ?_ | refine bC ?_ _)); refine blk_far ?_ NB144_165.out _; (with_reducible repeat (first | refine bA ?_ _ | refine bB ?_ | refine bC ?_ _)); refine blk_far ?_ NB144_165.out _; (with_reducible repeat (first | refine bA ?_ _ | refine bB ?_ | refine bC ?_ _)); refine blk_far ?_ NB144_165.out _; (with_reducible repeat (first | refine bA ?_ _ | refine bB ?_ | refine bC ?_ _)); refine blk_far ?_ NB144_165.out _; (with_reducible repeat (first | refine bA ?_ _ | refine bB ?_ | refine bC ?_ _)); refine blk_far ?_ NB144_165.out _; (with_reducible repeat (first | refine bA ?_ _ | refine bB ?_ | refine bC ?_ _)); refine blk_far ?_ NB144_165.out _; (with_reducible repeat (first | refine bA ?_ _ | refine bB ?_ | refine bC ?_ _)); refine blk_far ?_ NB144_165.out _; (with_reducible repeat (first | refine bA ?_ _ | refine bB ?_ | refine bC ?_ _)); refine blk_far ?_ NB144_165.out _; (with_reducible repeat (first | refine bA ?_ _ | refine bB ?_ | refine bC ?_ _)); refine blk_far ?_ NB144_165.out _; (with_reducible repeat (first | refine bA ?_ _ | refine bB ?_ | refine bC ?_ _)); exact BK144.out⟩
                        have n2_ : Aside0 (((((((((((w53.setCell ⟨gb165, 0, none⟩ (.int .i64 (ji30))).setCell ⟨gb165, 1, none⟩ (.int .i64 (rd x8_4 0))).setCell ⟨gb165, 2, none⟩ (.int .i64 0)).setCell ⟨gb165, 3, none⟩ (.int .i64 0)).setCell ⟨gb165, 4, none⟩ (.int .i64 0)).setCell ⟨gb165, 5, none⟩ (.int .i64 0)).setCell ⟨gb165, 6, none⟩ (.int .i64 0)).setCell ⟨gb165, 7, none⟩ (.string (⟨#[]⟩ : ByteArray))).setCell ⟨gb165, 2, none⟩ (.int .i64 (rd x8_4 1))).setCell ⟨gb165, 3, none⟩ (.int .i64 (rd x8_4 2))).heap[gb145]? = some (.cells #[.int .i64 0, .int .i64 0, .int .i64 0, .int .i64 0, .int .i64 0, .int .i64 0, .int .i64 0, .string (⟨#[]⟩ : ByteArray)] 32 (0, 0))) := ⟨by (with_reducible repeat (first | refine bA ?_ _ | refine bB ?_ | refine bC ?_ _)); refine blk_far ?_ NB145_165.out _; (with_reducible repeat (first | refine bA ?_ _ | refine bB ?_ | refine bC ?_ _)); refine blk_far ?_ NB145_165.out _; (with_reducible repeat (first | refine bA ?_ _ | refine bB ?_ | refine bC ?_ _)); refine blk_far ?_ NB145_165.out _; (with_reducible repeat (first | refine bA ?_ _ | refine bB ?_ | refine bC ?_ _)); refine blk_far ?_ NB145_165.out _; (with_reducible repeat (first | refine bA ?_ _ | refine bB ?_ | refine bC ?_ _)); refine blk_far ?_ NB145_165.out _; (with_reducible repeat (first | refine bA ?_ _ | refine bB ?_ | refine bC ?_ _)); refine blk_far ?_ NB145_165.out _; (with_reducible repeat (first | refine bA ?_ _ | refine bB ?_ | refine bC ?_ _)); refine blk_far ?_ NB145_165.out _; (with_reducible repeat (first | refine bA ?_ _ | refine bB ?_ | refine bC ?_ _)); refine blk_far ?_ NB145_165.out _; (with_reducible repeat (first | refine bA ?_ _ | refine bB ?_ | refine bC ?_ _)); refine blk_far ?_ NB145_165.out _; (with_reducible repeat (first | refine bA ?_ _ | refine bB ?_ | refine bC ?_ _)); refine blk_far ?_ NB145_165.out _; (with_reducible repeat (first | refine bA ?_ _ | refine bB ?_ | refine bC ?_ _)); exact BK145.out⟩
                        have n3_ : Aside0 (((((((((((w53.setCell ⟨gb165, 0, none⟩ (.int .i64 (ji30))).setCell ⟨gb165, 1, none⟩ (.int .i64 (rd x8_4 0))).setCell ⟨gb165, 2, none⟩ (.int .i64 0)).setCell ⟨gb165, 3, none⟩ (.int .i64 0)).setCell ⟨gb165, 4, none⟩ (.int .i64 0)).setCell ⟨gb165, 5, none⟩ (.int .i64 0)).setCell ⟨gb165, 6, none⟩ (.int .i64 0)).setCell ⟨gb165, 7, none⟩ (.string (⟨#[]⟩ : ByteArray))).setCell ⟨gb165, 2, none⟩ (.int .i64 (rd x8_4 1))).setCell ⟨gb165, 3, none⟩ (.int .i64 (rd x8_4 2))).heap[gb165]? = some (.cells #[.int .i64 (ji30), .int .i64 (rd x8_4 0), .int .i64 (rd x8_4 1), .int .i64 (rd x8_4 2), .int .i64 0, .int .i64 0, .int .i64 0, .string (⟨#[]⟩ : ByteArray)] 32 (0, 0))) := ⟨by (with_reducible repeat (first | refine bA ?_ _ | refine bB ?_ | refine bC ?_ _)); refine bH (cs := #[.int .i64 (ji30), .int .i64 (rd x8_4 0), .int .i64 (rd x8_4 1), .int .i64 0, .int .i64 0, .int .i64 0, .int .i64 0, .string (⟨#[]⟩ : ByteArray)]) ?_ 3 _ rfl; (with_reducible repeat (first | refine bA ?_ _ | refine bB ?_ | refine bC ?_ _)); refine bH (cs := #[.int .i64 (ji30), .int .i64 (rd x8_4 0), .int .i64 0, .int .i64 0, .int .i64 0, .int .i64 0, .int .i64 0, .string (⟨#[]⟩ : ByteArray)]) ?_ 2 _ rfl; (with_reducible repeat (first | refine bA ?_ _ | refine bB ?_ | refine bC ?_ _)); refine bH (cs := #[.int .i64 (ji30), .int .i64 (rd x8_4 0), .int .i64 0, .int .i64 0, .int .i64 0, .int .i64 0, .int .i64 0, .string (⟨#[]⟩ : ByteArray)]) ?_ 7 _ rfl; (with_reducible repeat (first | refine bA ?_ _ | refine bB ?_ | refine bC ?_ _)); refine bH (cs := #[.int .i64 (ji30), .int .i64 (rd x8_4 0), .int .i64 0, .int .i64 0, .int .i64 0, .int .i64 0, .int .i64 0, .string (⟨#[]⟩ : ByteArray)]) ?_ 6 _ rfl; (with_reducible repeat (first | refine bA ?_ _ | refine bB ?_ | refine bC ?_ _)); refine bH (cs := #[.int .i64 (ji30), .int .i64 (rd x8_4 0), .int .i64 0, .int .i64 0, .int .i64 0, .int .i64 0, .int .i64 0, .string (⟨#[]⟩ : ByteArray)]) ?_ 5 _ rfl; (with_reducible repeat (first | refine bA ?_ _ | refine bB ?_ | refine bC ?_ _)); refine bH (cs := #[.int .i64 (ji30), .int .i64 (rd x8_4 0), .int .i64 0, .int .i64 0, .int .i64 0, .int .i64 0, .int .i64 0, .string (⟨#[]⟩ : ByteArray)]) ?_ 4 _ rfl; (with_reducible repeat (first | refine bA ?_ _ | refine bB ?_ | refine bC ?_ _)); refine bH (cs := #[.int .i64 (ji30), .int .i64 (rd x8_4 0), .int .i64 0, .int .i64 0, .int .i64 0, .int .i64 0, .int .i64 0, .string (⟨#[]⟩ : ByteArray)]) ?_ 3 _ rfl; (with_reducible repeat (first | refine bA ?_ _ | refine bB ?_ | refine bC ?_ _)); refine bH (cs := #[.int .i64 (ji30), .int .i64 (rd x8_4 0), .int .i64 0, .int .i64 0, .int .i64 0, .int .i64 0, .int .i64 0, .string (⟨#[]⟩ : ByteArray)]) ?_ 2 _ rfl; (with_reducible repeat (first | refine bA ?_ _ | refine bB ?_ | refine bC ?_ _)); refine bH (cs := #[.int .i64 (ji30), .int .i64 0, .int .i64 0, .int .i64 0, .int .i64 0, .int .i64 0, .int .i64 0, .string (⟨#[]⟩ : ByteArray)]) ?_ 1 _ rfl; (with_reducible repeat (first | refine bA ?_ _ | refine bB ?_ | refine bC ?_ _)); refine bH (cs := #[.int .i64 0, .int .i64 0, .int .i64 0, .int .i64 0, .int .i64 0, .int .i64 0, .int .i64 0, .string (⟨#[]⟩ : ByteArray)]) ?_ 0 _ rfl; (with_reducible repeat (first | refine bA ?_ _ | refine bB ?_ | refine bC ?_ _)); exact BK165.out⟩
                        have n4_ : Aside0 (Below w.heap.size w ((((((((((w53.setCell ⟨gb165, 0, none⟩ (.int .i64 (ji30))).setCell ⟨gb165, 1, none⟩ (.int .i64 (rd x8_4 0))).setCell ⟨gb165, 2, none⟩ (.int .i64 0)).setCell ⟨gb165, 3, none⟩ (.int .i64 0)).setCell ⟨gb165, 4, none⟩ (.int .i64 0)).setCell ⟨gb165, 5, none⟩ (.int .i64 0)).setCell ⟨gb165, 6, none⟩ (.int .i64 0)).setCell ⟨gb165, 7, none⟩ (.string (⟨#[]⟩ : ByteArray))).setCell ⟨gb165, 2, none⟩ (.int .i64 (rd x8_4 1))).setCell ⟨gb165, 3, none⟩ (.int .i64 (rd x8_4 2)))) := ⟨by repeat (first | (with_reducible first | exact HB.out | apply bE | apply bD | apply bF | refine below_set ?_ GE144.out | refine below_set ?_ GE145.out | refine below_set ?_ GE165.out) | exact HB.out)⟩
                        (try clear HO_8)
                        (try clear BK144)
                        (try clear BK145)
                        (try clear BK165)
                        (try clear HB)
                        generalize ((((((((((w53.setCell ⟨gb165, 0, none⟩ (.int .i64 (ji30))).setCell ⟨gb165, 1, none⟩ (.int .i64 (rd x8_4 0))).setCell ⟨gb165, 2, none⟩ (.int .i64 0)).setCell ⟨gb165, 3, none⟩ (.int .i64 0)).setCell ⟨gb165, 4, none⟩ (.int .i64 0)).setCell ⟨gb165, 5, none⟩ (.int .i64 0)).setCell ⟨gb165, 6, none⟩ (.int .i64 0)).setCell ⟨gb165, 7, none⟩ (.string (⟨#[]⟩ : ByteArray))).setCell ⟨gb165, 2, none⟩ (.int .i64 (rd x8_4 1))).setCell ⟨gb165, 3, none⟩ (.int .i64 (rd x8_4 2))) = w85 at n0_ n1_ n2_ n3_ n4_ ⊢
                        have HO_8 := n0_
                        have BK144 := n1_
                        have BK145 := n2_
                        have BK165 := n3_
                        have HB := n4_
                        clear n0_ n1_ n2_ n3_ n4_
                        have n0_ := zM (Kd.R_drew HO_8.out)
                        have n1_ := zM (bB BK144.out)
                        have n2_ := zM (bB BK145.out)
                        have n3_ := zM (bB BK165.out)
                        have n4_ := zM (bF HB.out)
                        clear HO_8
                        clear BK144
                        clear BK145
                        clear BK165
                        clear HB
                        have HO_8 := n0_
                        have BK144 := n1_
                        have BK145 := n2_
                        have BK165 := n3_
                        have HB := n4_
                        clear n0_ n1_ n2_ n3_ n4_
                        have p173 : 0 ≤ (3 : Int) := (by omega)
                        have q173 : 3 < (x8_4.length : Int) := of_decide_eq_true (by first | (with_reducible assumption) | assumption)
                        obtain ⟨ad173, e173, hx173_0⟩ := Kd.at_int (Kd.R_reads' HO_8.out).2.2 3 p173 q173
                        obtain rfl : ad164 = ad173 := (by injection e173)
                        (try simp only [show (3 : Int).toNat = 3 from rfl, Nat.reduceMul, Nat.reduceEqDiff, Go.Addr.add, ↓reduceIte] at hx173_0)
                        have qi173 : (3 < x8_4.length) = True := eq_true (by omega)
                        (try rw [show ((3 : Int)).toNat = 3 from rfl] at hx173_0)
                        replace p173 := eq_true p173
                        replace q173 := eq_true q173
                        (try (have q173d := q173; simp only [List.length_drop] at q173d))
                        (try (have q173e := of_eq_true q173; rw [List.length_take] at q173e; replace q173e := Int.lt_of_lt_of_le q173e (Int.ofNat_le.mpr (Nat.min_le_left _ _)); rw [Int.ofNat_toNat] at q173e; have q173g := eq_false (Int.not_le.mpr q173e); replace q173e := eq_true q173e))
                        have p175 : 0 ≤ (4 : Int) := (by omega)
                        have q175 : 4 < (x8_4.length : Int) := of_decide_eq_true (by first | (with_reducible assumption) | assumption)
                        obtain ⟨ad175, e175, hx175_0⟩ := Kd.at_int (Kd.R_reads' HO_8.out).2.2 4 p175 q175
                        obtain rfl : ad164 = ad175 := (by injection e175)
                        (try simp only [show (4 : Int).toNat = 4 from rfl, Nat.reduceMul, Nat.reduceEqDiff, Go.Addr.add, ↓reduceIte] at hx175_0)
                        have qi175 : (4 < x8_4.length) = True := eq_true (by omega)
                        (try rw [show ((4 : Int)).toNat = 4 from rfl] at hx175_0)
                        replace p175 := eq_true p175
                        replace q175 := eq_true q175
                        (try (have q175d := q175; simp only [List.length_drop] at q175d))
                        (try (have q175e := of_eq_true q175; rw [List.length_take] at q175e; replace q175e := Int.lt_of_lt_of_le q175e (Int.ofNat_le.mpr (Nat.min_le_left _ _)); rw [Int.ofNat_toNat] at q175e; have q175g := eq_false (Int.not_le.mpr q175e); replace q175e := eq_true q175e))
                        refine start_ (n := 11) (S := fun w' => w'.cell? ⟨ad164.block, ad164.off + 3, none⟩ = some (.int .i64 (rd x8_4 3)) ∧ w'.cell? ⟨ad164.block, ad164.off + 4, none⟩ = some (.int .i64 (rd x8_4 4))) (ds := []) #[false, false, false, false, false, false, false, false, false, false, false] (by kernel_rfl) rfl rfl ⟨hx173_0, hx175_0⟩ (fun hHeld => ?_); refine with_tabW spec_Unpack.tab34 spec_Unpack.bits34 (fun HT_ HW_ => ?_)
                        generalize w85.drew = w86 at HO_8 BK144 BK145 BK165 HB hx173_0 hx175_0 hHeld ⊢
                        refine pure_ (i := 0) (N := some 127) (v := ?_) (a' := ?_) #[true, false, false, false, false, false, false, false, false, false, false] rfl rfl (any_of HT_.out (by kernel_rfl)) (fun _ _ _ h => h) (Or.inl ⟨by rfl, ?_⟩) ?_ ?_
                        rotate_left
                        ·intro w'
                         go_simp
                         with_reducible rfl
                        rotate_left
                        ·simp only [Act.put, zS, z0, z1, i64_w, i32_w]
                         rfl
                        refine pure_ (i := 1) (N := some 128) (v := ?_) (a' := ?_) #[true, true, false, false, false, false, false, false, false, false, false] rfl rfl (any_of HT_.out (by kernel_rfl)) (fun _ _ _ h => h) (Or.inl ⟨by rfl, ?_⟩) ?_ ?_
                        rotate_left
                        ·intro w'
                         go_simp
                         with_reducible rfl
                        rotate_left
                        ·simp only [Act.put, zS, z0, z1, i64_w, i32_w]
                         rfl
                        refine pure_ (i := 4) (N := some 131) (v := ?_) (a' := ?_) #[true, true, false, false, true, false, false, false, false, false, false] rfl rfl (any_of HT_.out (by kernel_rfl)) (fun _ _ _ h => h) (Or.inl ⟨by rfl, ?_⟩) ?_ ?_
                        rotate_left
                        ·intro w'
                         go_simp
                         with_reducible rfl
                        rotate_left
                        ·simp only [Act.put, zS, z0, z1, i64_w, i32_w]
                         rfl
                        refine pure_ (i := 5) (N := some 132) (v := ?_) (a' := ?_) #[true, true, false, false, true, true, false, false, false, false, false] rfl rfl (any_of HT_.out (by kernel_rfl)) (fun _ _ _ h => h) (Or.inl ⟨by rfl, ?_⟩) ?_ ?_
                        rotate_left
                        ·intro w'
                         go_simp
                         with_reducible rfl
                        rotate_left
                        ·simp only [Act.put, zS, z0, z1, i64_w, i32_w]
                         rfl
                        refine take_ (i := 2) (N := some 129) (v := ?_) (a' := ?_) #[true, true, true, false, true, true, false, false, false, false, false] rfl rfl (take_ofW HT_.out HW_.out (by kernel_rfl)) (fun _ _ _ h => h) (Or.inl ⟨by rfl, ?_⟩) hHeld ?_ ?_
                        rotate_left
                        ·rintro w' ⟨s0, s1⟩
                         go_simp
                         with_reducible rfl
                        rotate_left
                        ·simp only [Act.put, zS, z0, z1, i64_w, i32_w]
                         rfl
                        refine take_ (i := 6) (N := some 133) (v := ?_) (a' := ?_) #[true, true, true, false, true, true, true, false, false, false, false] rfl rfl (take_ofW HT_.out HW_.out (by kernel_rfl)) (fun _ _ _ h => h) (Or.inl ⟨by rfl, ?_⟩) hHeld ?_ ?_
                        rotate_left
                        ·rintro w' ⟨s0, s1⟩
                         go_simp
                         with_reducible rfl
                        rotate_left
                        ·simp only [Act.put, zS, z0, z1, i64_w, i32_w]
                         rfl
                        refine one_ (i := 3) (N := some 130) #[true, true, true, true, true, true, true, false, false, false, false] rfl rfl (one_of HT_.out (by kernel_rfl)) (by decide) (fun K hK => ?_)
                        refine goes_ Try.func45 (by kernel_rfl) rfl #[.int .i64 (rd x8_4 3)] (by rfl) rfl rfl (by (try simp only [List.map_toArray, List.map_cons, List.map_nil]); first | done | rfl | (simp only [List.length_drop, List.length_take]; rfl)) ?_
                        with_reducible refine (spec_l4End.calls (rd x8_4 3) t174 _ A79.out).mono ?_
                        rintro e w' ⟨rfl, ⟨nd, rfl⟩⟩
                        refine ⟨_, rfl, ?_⟩
                        refine hK.out _ _ ⟨hHeld.1, hHeld.2⟩ (fun hHeld => ?_)
                        clear hK K
                        refine norm_ (a' := ?_) ?_ ?_
                        rotate_left
                        ·show Act.put _ (some 130) _ = _
                         simp only [Act.put, zS, z0, z1, i64_w, i32_w]
                         rfl
                        refine one_ (i := 7) (N := some 134) #[true, true, true, true, true, true, true, true, false, false, false] rfl rfl (one_of HT_.out (by kernel_rfl)) (by decide) (fun K hK => ?_)
                        refine goes_ Try.func45 (by kernel_rfl) rfl #[.int .i64 (rd x8_4 4)] (by rfl) rfl rfl (by (try simp only [List.map_toArray, List.map_cons, List.map_nil]); first | done | rfl | (simp only [List.length_drop, List.length_take]; rfl)) ?_
                        with_reducible refine (spec_l4End.calls (rd x8_4 4) t176 _ A81.out).mono ?_
                        rintro e w' ⟨rfl, ⟨nd, rfl⟩⟩
                        refine ⟨_, rfl, ?_⟩
                        refine hK.out _ _ ⟨hHeld.1, hHeld.2⟩ (fun hHeld => ?_)
                        clear hK K
                        refine norm_ (a' := ?_) ?_ ?_
                        rotate_left
                        ·show Act.put _ (some 134) _ = _
                         simp only [Act.put, zS, z0, z1, i64_w, i32_w]
                         rfl
                        refine pure_ (i := 8) (N := some 135) (v := ?_) (a' := ?_) #[true, true, true, true, true, true, true, true, true, false, false] rfl rfl (any_of HT_.out (by kernel_rfl)) (fun _ _ _ h => h) (Or.inl ⟨by rfl, ?_⟩) ?_ ?_
                        rotate_left
                        ·intro w'
                         go_simp
                         with_reducible rfl
                        rotate_left
                        ·simp only [Act.put, zS, z0, z1, i64_w, i32_w]
                         rfl
                        refine pure_ (i := 9) (N := some 136) (v := ?_) (a' := ?_) #[true, true, true, true, true, true, true, true, true, true, false] rfl rfl (any_of HT_.out (by kernel_rfl)) (fun _ _ _ h => h) (Or.inl ⟨by rfl, ?_⟩) ?_ ?_
                        rotate_left
                        ·intro w'
                         go_simp
                         with_reducible rfl
                        rotate_left
                        ·simp only [Act.put, zS, z0, z1, i64_w, i32_w]
                         rfl
                        refine one_ (i := 10) (N := none) #[true, true, true, true, true, true, true, true, true, true, true] rfl rfl (one_of HT_.out (by kernel_rfl)) (by decide) (fun K hK => ?_)
                        have hs87 : w86.cell? ⟨gb165, 4, none⟩ = some (.int .i64 0) := (blk_cell BK165.out 4).trans rfl
                        have hfs87 := blk_frozen BK165.out 4
                        have hns87_0 := NB144_165.out
                        have hns87_1 := NB145_165.out
                        have hms87_0 := NB165_144.out
                        have hms87_1 := NB165_145.out
                        have hs88 : w86.cell? ⟨gb165, 5, none⟩ = some (.int .i64 0) := (blk_cell BK165.out 5).trans rfl
                        have hfs88 := blk_frozen BK165.out 5
                        have hns88_0 := NB144_165.out
                        have hns88_1 := NB145_165.out
                        have hms88_0 := NB165_144.out
                        have hms88_1 := NB165_145.out
                        refine skip_ (w1 := ?_) (by rfl) rfl ?_ ?_
                        rotate_left
                        ·go_simp
                         rfl
                        (try simp only [World.drewN_drewN] at hHeld)
                        have hb_ : ad164.block ≠ gb165 := Kd.own_blk (Kd.R_ne HO_8.out BK165.out (by decide))
                        have e1_ : ∀ (W : World) (o : Nat) (j : Nat) (v : Value), (W.setCell ⟨gb165, j, none⟩ v).cell? ⟨ad164.block, o, none⟩ = W.cell? ⟨ad164.block, o, none⟩ := fun W o j v => cell_far hb_ _
                        refine hK.out _ _ ?hold (fun hHeld => ?_)
                        case hold => simp only [e1_]; exact hHeld
                        clear hK K
                        refine done_ (done_of HT_.out (by kernel_rfl)) ?_
                        try go_wp2
                        go_meet
                        case rel => exact ⟨_, (x9_4), (x145000_4), (x145001_4), (x145002_4), (x145003_4), (x145004_4), (x145005_4), (x145006_4), (x145007_4), (rd x8_4 1), (rd x8_4 2), (t174), (t176), (0), ((⟨#[]⟩ : ByteArray)), (by first | rfl | (simp; done) | (simp [*]; done)), H', ⟨by have := HJ1.out; have := HJ15.out; have := HJ24.out; have := HK4.out; first | omega | exact Nat.le_refl _⟩, ⟨by (with_reducible repeat (first | refine bA ?_ _ | refine bB ?_ | refine bC ?_ _)); refine blk_far ?_ NB144_165.out _; (with_reducible repeat (first | refine bA ?_ _ | refine bB ?_ | refine bC ?_ _)); refine blk_far ?_ NB144_165.out _; (with_reducible repeat (first | refine bA ?_ _ | refine bB ?_ | refine bC ?_ _)); exact BK144.out⟩, ⟨by (with_reducible repeat (first | refine bA ?_ _ | refine bB ?_ | refine bC ?_ _)); refine blk_far ?_ NB145_165.out _; (with_reducible repeat (first | refine bA ?_ _ | refine bB ?_ | refine bC ?_ _)); refine blk_far ?_ NB145_165.out _; (with_reducible repeat (first | refine bA ?_ _ | refine bB ?_ | refine bC ?_ _)); exact BK145.out⟩, ⟨by (with_reducible repeat (first | refine bA ?_ _ | refine bB ?_ | refine bC ?_ _)); refine bH (cs := #[.int .i64 (ji30), .int .i64 (rd x8_4 0), .int .i64 (rd x8_4 1), .int .i64 (rd x8_4 2), .int .i64 t174, .int .i64 0, .int .i64 0, .string (⟨#[]⟩ : ByteArray)]) ?_ 5 _ rfl; (with_reducible repeat (first | refine bA ?_ _ | refine bB ?_ | refine bC ?_ _)); refine bH (cs := #[.int .i64 (ji30), .int .i64 (rd x8_4 0), .int .i64 (rd x8_4 1), .int .i64 (rd x8_4 2), .int .i64 0, .int .i64 0, .int .i64 0, .string (⟨#[]⟩ : ByteArray)]) ?_ 4 _ rfl; (with_reducible repeat (first | refine bA ?_ _ | refine bB ?_ | refine bC ?_ _)); exact BK165.out⟩, ⟨by repeat (first | (with_reducible first | exact HB.out | apply bE | apply bD | apply bF | refine below_set ?_ GE144.out | refine below_set ?_ GE145.out | refine below_set ?_ GE165.out) | exact HB.out)⟩⟩
                       ·rw [if_neg c80] at H
                        exact absurd H (by simp)
                      ·rw [if_neg c78] at H
                       exact absurd H (by simp)
                     ·rw [if_neg c77] at H
                      exact absurd H (by simp)
                    ·rw [if_neg c76] at H
                     exact absurd H (by simp)
                   ·rw [if_neg c75] at H
                    have c75b0 : ((ji30) == 2) = false := beq_eq_false_iff_ne.mpr c75
                    have c75b1 : ((ji30) != 2) = true := bne_iff_ne.mpr c75
                    by_cases c89 : 1 < (x8_4.length : Int)
                    ·rw [if_pos c89] at H
                     have c89b0 : decide (1 < (x8_4.length : Int)) = true := decide_eq_true c89
                     have c89b1 : decide (1 < x8_4.length) = true := decide_eq_true (by omega)
                     clear c89
                     by_cases c90 : 2 < (x8_4.length : Int)
                     ·rw [if_pos c90] at H
                      have c90b0 : decide (2 < (x8_4.length : Int)) = true := decide_eq_true c90
                      have c90b1 : decide (2 < x8_4.length) = true := decide_eq_true (by omega)
                      clear c90
                      have H' := zM H
                      clear H
                      have p177 : 0 ≤ (1 : Int) := (by omega)
                      have q177 : 1 < (x8_4.length : Int) := of_decide_eq_true (by first | (with_reducible assumption) | assumption)
                      obtain ⟨ad177, e177, hx177_0⟩ := Kd.at_int (Kd.R_reads' HO_8.out).2.2 1 p177 q177
                      obtain rfl : ad164 = ad177 := (by injection e177)
                      (try simp only [show (1 : Int).toNat = 1 from rfl, Nat.reduceMul, Nat.reduceEqDiff, Go.Addr.add, ↓reduceIte] at hx177_0)
                      have qi177 : (1 < x8_4.length) = True := eq_true (by omega)
                      (try rw [show ((1 : Int)).toNat = 1 from rfl] at hx177_0)
                      have hn177_0 : ad164.block ≠ gb165 := Kd.own_blk (Kd.R_ne HO_8.out BK165.out (by decide))
                      have hn177_1 : ad164.block ≠ gb165 := Kd.own_blk (Kd.R_ne HO_8.out BK165.out (by decide))
                      have hn177_2 : ad164.block ≠ gb165 := Kd.own_blk (Kd.R_ne HO_8.out BK165.out (by decide))
                      have hn177_3 : ad164.block ≠ gb165 := Kd.own_blk (Kd.R_ne HO_8.out BK165.out (by decide))
                      have hn177_4 : ad164.block ≠ gb165 := Kd.own_blk (Kd.R_ne HO_8.out BK165.out (by decide))
                      have hn177_5 : ad164.block ≠ gb165 := Kd.own_blk (Kd.R_ne HO_8.out BK165.out (by decide))
                      have hn177_6 : ad164.block ≠ gb165 := Kd.own_blk (Kd.R_ne HO_8.out BK165.out (by decide))
                      have hn177_7 : ad164.block ≠ gb165 := Kd.own_blk (Kd.R_ne HO_8.out BK165.out (by decide))
                      replace hx177_0 := (cell_far (p := ⟨gb165, 0, none⟩) (by first | (rw [add_block]; exact hn177_0) | (show (Addr.add _ _).block ≠ _; rw [add_block]; exact hn177_0) | exact hn177_0) (.int .i64 (ji30))).trans hx177_0
                      replace hx177_0 := (cell_far (p := ⟨gb165, 1, none⟩) (by first | (rw [add_block]; exact hn177_1) | (show (Addr.add _ _).block ≠ _; rw [add_block]; exact hn177_1) | exact hn177_1) (.int .i64 (rd x8_4 0))).trans hx177_0
                      replace hx177_0 := (cell_far (p := ⟨gb165, 2, none⟩) (by first | (rw [add_block]; exact hn177_2) | (show (Addr.add _ _).block ≠ _; rw [add_block]; exact hn177_2) | exact hn177_2) (.int .i64 0)).trans hx177_0
                      replace hx177_0 := (cell_far (p := ⟨gb165, 3, none⟩) (by first | (rw [add_block]; exact hn177_3) | (show (Addr.add _ _).block ≠ _; rw [add_block]; exact hn177_3) | exact hn177_3) (.int .i64 0)).trans hx177_0
                      replace hx177_0 := (cell_far (p := ⟨gb165, 4, none⟩) (by first | (rw [add_block]; exact hn177_4) | (show (Addr.add _ _).block ≠ _; rw [add_block]; exact hn177_4) | exact hn177_4) (.int .i64 0)).trans hx177_0
                      replace hx177_0 := (cell_far (p := ⟨gb165, 5, none⟩) (by first | (rw [add_block]; exact hn177_5) | (show (Addr.add _ _).block ≠ _; rw [add_block]; exact hn177_5) | exact hn177_5) (.int .i64 0)).trans hx177_0
                      replace hx177_0 := (cell_far (p := ⟨gb165, 6, none⟩) (by first | (rw [add_block]; exact hn177_6) | (show (Addr.add _ _).block ≠ _; rw [add_block]; exact hn177_6) | exact hn177_6) (.int .i64 0)).trans hx177_0
                      replace hx177_0 := (cell_far (p := ⟨gb165, 7, none⟩) (by first | (rw [add_block]; exact hn177_7) | (show (Addr.add _ _).block ≠ _; rw [add_block]; exact hn177_7) | exact hn177_7) (.string (⟨#[]⟩ : ByteArray))).trans hx177_0
                      clear hn177_0
                      clear hn177_1
                      clear hn177_2
                      clear hn177_3
                      clear hn177_4
                      clear hn177_5
                      clear hn177_6
                      clear hn177_7
                      replace p177 := eq_true p177
                      replace q177 := eq_true q177
                      (try (have q177d := q177; simp only [List.length_drop] at q177d))
                      (try (have q177e := of_eq_true q177; rw [List.length_take] at q177e; replace q177e := Int.lt_of_lt_of_le q177e (Int.ofNat_le.mpr (Nat.min_le_left _ _)); rw [Int.ofNat_toNat] at q177e; have q177g := eq_false (Int.not_le.mpr q177e); replace q177e := eq_true q177e))
                      have hnb91 := NB165_144.out
                      have hnc91 := NB144_165.out
                      have hnb92 := NB165_145.out
                      have hnc92 := NB145_165.out
                      have hcz93_0 : w53.cell? ⟨gb165, 0, none⟩ = some (.int .i64 0) := (blk_cell BK165.out 0).trans rfl
                      have hcz93_1 : w53.cell? ⟨gb165, 1, none⟩ = some (.int .i64 0) := (blk_cell BK165.out 1).trans rfl
                      have hcz93_2 : w53.cell? ⟨gb165, 2, none⟩ = some (.int .i64 0) := (blk_cell BK165.out 2).trans rfl
                      have hcz93_3 : w53.cell? ⟨gb165, 3, none⟩ = some (.int .i64 0) := (blk_cell BK165.out 3).trans rfl
                      have hcz93_4 : w53.cell? ⟨gb165, 4, none⟩ = some (.int .i64 0) := (blk_cell BK165.out 4).trans rfl
                      have hcz93_5 : w53.cell? ⟨gb165, 5, none⟩ = some (.int .i64 0) := (blk_cell BK165.out 5).trans rfl
                      have hcz93_6 : w53.cell? ⟨gb165, 6, none⟩ = some (.int .i64 0) := (blk_cell BK165.out 6).trans rfl
                      have hcz93_7 : w53.cell? ⟨gb165, 7, none⟩ = some (.string (⟨#[]⟩ : ByteArray)) := (blk_cell BK165.out 7).trans rfl
                      have hfz93_0 := blk_frozen BK165.out 0
                      have hfz93_1 := blk_frozen BK165.out 1
                      have hfz93_2 := blk_frozen BK165.out 2
                      have hfz93_3 := blk_frozen BK165.out 3
                      have hfz93_4 := blk_frozen BK165.out 4
                      have hfz93_5 := blk_frozen BK165.out 5
                      have hfz93_6 := blk_frozen BK165.out 6
                      have hfz93_7 := blk_frozen BK165.out 7
                      have p178 : 0 ≤ (2 : Int) := (by omega)
                      have q178 : 2 < (x8_4.length : Int) := of_decide_eq_true (by first | (with_reducible assumption) | assumption)
                      obtain ⟨ad178, e178, hx178_0⟩ := Kd.at_int (Kd.R_reads' HO_8.out).2.2 2 p178 q178
                      obtain rfl : ad164 = ad178 := (by injection e178)
                      (try simp only [show (2 : Int).toNat = 2 from rfl, Nat.reduceMul, Nat.reduceEqDiff, Go.Addr.add, ↓reduceIte] at hx178_0)
                      have qi178 : (2 < x8_4.length) = True := eq_true (by omega)
                      (try rw [show ((2 : Int)).toNat = 2 from rfl] at hx178_0)
                      have hn178_0 : ad164.block ≠ gb165 := Kd.own_blk (Kd.R_ne HO_8.out BK165.out (by decide))
                      have hn178_1 : ad164.block ≠ gb165 := Kd.own_blk (Kd.R_ne HO_8.out BK165.out (by decide))
                      have hn178_2 : ad164.block ≠ gb165 := Kd.own_blk (Kd.R_ne HO_8.out BK165.out (by decide))
                      have hn178_3 : ad164.block ≠ gb165 := Kd.own_blk (Kd.R_ne HO_8.out BK165.out (by decide))
                      have hn178_4 : ad164.block ≠ gb165 := Kd.own_blk (Kd.R_ne HO_8.out BK165.out (by decide))
                      have hn178_5 : ad164.block ≠ gb165 := Kd.own_blk (Kd.R_ne HO_8.out BK165.out (by decide))
                      have hn178_6 : ad164.block ≠ gb165 := Kd.own_blk (Kd.R_ne HO_8.out BK165.out (by decide))
                      have hn178_7 : ad164.block ≠ gb165 := Kd.own_blk (Kd.R_ne HO_8.out BK165.out (by decide))
                      have hn178_8 : ad164.block ≠ gb165 := Kd.own_blk (Kd.R_ne HO_8.out BK165.out (by decide))
                      replace hx178_0 := (cell_far (p := ⟨gb165, 0, none⟩) (by first | (rw [add_block]; exact hn178_0) | (show (Addr.add _ _).block ≠ _; rw [add_block]; exact hn178_0) | exact hn178_0) (.int .i64 (ji30))).trans hx178_0
                      replace hx178_0 := (cell_far (p := ⟨gb165, 1, none⟩) (by first | (rw [add_block]; exact hn178_1) | (show (Addr.add _ _).block ≠ _; rw [add_block]; exact hn178_1) | exact hn178_1) (.int .i64 (rd x8_4 0))).trans hx178_0
                      replace hx178_0 := (cell_far (p := ⟨gb165, 2, none⟩) (by first | (rw [add_block]; exact hn178_2) | (show (Addr.add _ _).block ≠ _; rw [add_block]; exact hn178_2) | exact hn178_2) (.int .i64 0)).trans hx178_0
                      replace hx178_0 := (cell_far (p := ⟨gb165, 3, none⟩) (by first | (rw [add_block]; exact hn178_3) | (show (Addr.add _ _).block ≠ _; rw [add_block]; exact hn178_3) | exact hn178_3) (.int .i64 0)).trans hx178_0
                      replace hx178_0 := (cell_far (p := ⟨gb165, 4, none⟩) (by first | (rw [add_block]; exact hn178_4) | (show (Addr.add _ _).block ≠ _; rw [add_block]; exact hn178_4) | exact hn178_4) (.int .i64 0)).trans hx178_0
                      replace hx178_0 := (cell_far (p := ⟨gb165, 5, none⟩) (by first | (rw [add_block]; exact hn178_5) | (show (Addr.add _ _).block ≠ _; rw [add_block]; exact hn178_5) | exact hn178_5) (.int .i64 0)).trans hx178_0
                      replace hx178_0 := (cell_far (p := ⟨gb165, 6, none⟩) (by first | (rw [add_block]; exact hn178_6) | (show (Addr.add _ _).block ≠ _; rw [add_block]; exact hn178_6) | exact hn178_6) (.int .i64 0)).trans hx178_0
                      replace hx178_0 := (cell_far (p := ⟨gb165, 7, none⟩) (by first | (rw [add_block]; exact hn178_7) | (show (Addr.add _ _).block ≠ _; rw [add_block]; exact hn178_7) | exact hn178_7) (.string (⟨#[]⟩ : ByteArray))).trans hx178_0
                      replace hx178_0 := (cell_far (p := ⟨gb165, 2, none⟩) (by first | (rw [add_block]; exact hn178_8) | (show (Addr.add _ _).block ≠ _; rw [add_block]; exact hn178_8) | exact hn178_8) (.int .i64 (rd x8_4 1))).trans hx178_0
                      clear hn178_0
                      clear hn178_1
                      clear hn178_2
                      clear hn178_3
                      clear hn178_4
                      clear hn178_5
                      clear hn178_6
                      clear hn178_7
                      clear hn178_8
                      replace p178 := eq_true p178
                      replace q178 := eq_true q178
                      (try (have q178d := q178; simp only [List.length_drop] at q178d))
                      (try (have q178e := of_eq_true q178; rw [List.length_take] at q178e; replace q178e := Int.lt_of_lt_of_le q178e (Int.ofNat_le.mpr (Nat.min_le_left _ _)); rw [Int.ofNat_toNat] at q178e; have q178g := eq_false (Int.not_le.mpr q178e); replace q178e := eq_true q178e))
                      go_wp2
                      go_meet
                      case rel => exact ⟨_, (x9_4), (x145000_4), (x145001_4), (x145002_4), (x145003_4), (x145004_4), (x145005_4), (x145006_4), (x145007_4), (rd x8_4 1), (rd x8_4 2), (0), (0), (0), ((⟨#[]⟩ : ByteArray)), (by first | rfl | (simp; done) | (simp [*]; done)), H', ⟨by have := HJ1.out; have := HJ15.out; have := HJ24.out; have := HK4.out; first | omega | exact Nat.le_refl _⟩, ⟨by (with_reducible repeat (first | refine bA ?_ _ | refine bB ?_ | refine bC ?_ _)); refine blk_far ?_ NB144_165.out _; (with_reducible repeat (first | refine bA ?_ _ | refine bB ?_ | refine bC ?_ _)); refine blk_far ?_ NB144_165.out _; (with_reducible repeat (first | refine bA ?_ _ | refine bB ?_ | refine bC ?_ _)); refine blk_far ?_ NB144_165.out _; (with_reducible repeat (first | refine bA ?_ _ | refine bB ?_ | refine bC ?_ _)); refine blk_far ?_ NB144_165.out _; (with_reducible repeat (first | refine bA ?_ _ | refine bB ?_ | refine bC ?_ _)); refine blk_far ?_ NB144_165.out _; (with_reducible repeat (first | refine bA ?_ _ | refine bB ?_ | refine bC ?_ _)); refine blk_far ?_ NB144_165.out _; (with_reducible repeat (first | refine bA ?_ _ | refine bB ?_ | refine bC ?_ _)); refine blk_far ?_ NB144_165.out _; (with_reducible repeat (first | refine bA ?_ _ | refine bB ?_ | refine bC ?_ _)); refine blk_far ?_ NB144_165.out _; (with_reducible repeat (first | refine bA ?_ _ | refine bB ?_ | refine bC ?_ _)); refine blk_far ?_ NB144_165.out _; (with_reducible repeat (first | refine bA ?_ _ | refine bB ?_ | refine bC ?_ _)); refine blk_far ?_ NB144_165.out _; (with_reducible repeat (first | refine bA ?_ _ | refine bB ?_ | refine bC ?_ _)); exact BK144.out⟩, ⟨by (with_reducible repeat (first | refine bA ?_ _ | refine bB ?_ | refine bC ?_ _)); refine blk_far ?_ NB145_165.out _; (with_reducible repeat (first | refine bA ?_ _ | refine bB ?_ | refine bC ?_ _)); refine blk_far ?_ NB145_165.out _; (with_reducible repeat (first | refine bA ?_ _ | refine bB ?_ | refine bC ?_ _)); refine blk_far ?_ NB145_165.out _; (with_reducible repeat (first | refine bA ?_ _ | refine bB ?_ | refine bC ?_ _)); refine blk_far ?_ NB145_165.out _; (with_reducible repeat (first | refine bA ?_ _ | refine bB ?_ | refine bC ?_ _)); refine blk_far ?_ NB145_165.out _; (with_reducible repeat (first | refine bA ?_ _ | refine bB ?_ | refine bC ?_ _)); refine blk_far ?_ NB145_165.out _; (with_reducible repeat (first | refine bA ?_ _ | refine bB ?_ | refine bC ?_ _)); refine blk_far ?_ NB145_165.out _; (with_reducible repeat (first | refine bA ?_ _ | refine bB ?_ | refine bC ?_ _)); refine blk_far ?_ NB145_165.out _; (with_reducible repeat (first | refine bA ?_ _ | refine bB ?_ | refine bC ?_ _)); refine blk_far ?_ NB145_165.out _; (with_reducible repeat (first | refine bA ?_ _ | refine bB ?_ | refine bC ?_ _)); refine blk_far ?_ NB145_165.out _; (with_reducible repeat (first | refine bA ?_ _ | refine bB ?_ | refine bC ?_ _)); exact BK145.out⟩, ⟨by (with_reducible repeat (first | refine bA ?_ _ | refine bB ?_ | refine bC ?_ _)); refine bH (cs := #[.int .i64 (ji30), .int .i64 (rd x8_4 0), .int .i64 (rd x8_4 1), .int .i64 0, .int .i64 0, .int .i64 0, .int .i64 0, .string (⟨#[]⟩ : ByteArray)]) ?_ 3 _ rfl; (with_reducible repeat (first | refine bA ?_ _ | refine bB ?_ | refine bC ?_ _)); refine bH (cs := #[.int .i64 (ji30), .int .i64 (rd x8_4 0), .int .i64 0, .int .i64 0, .int .i64 0, .int .i64 0, .int .i64 0, .string (⟨#[]⟩ : ByteArray)]) ?_ 2 _ rfl; (with_reducible repeat (first | refine bA ?_ _ | refine bB ?_ | refine bC ?_ _)); refine bH (cs := #[.int .i64 (ji30), .int .i64 (rd x8_4 0), .int .i64 0, .int .i64 0, .int .i64 0, .int .i64 0, .int .i64 0, .string (⟨#[]⟩ : ByteArray)]) ?_ 7 _ rfl; (with_reducible repeat (first | refine bA ?_ _ | refine bB ?_ | refine bC ?_ _)); refine bH (cs := #[.int .i64 (ji30), .int .i64 (rd x8_4 0), .int .i64 0, .int .i64 0, .int .i64 0, .int .i64 0, .int .i64 0, .string (⟨#[]⟩ : ByteArray)]) ?_ 6 _ rfl; (with_reducible repeat (first | refine bA ?_ _ | refine bB ?_ | refine bC ?_ _)); refine bH (cs := #[.int .i64 (ji30), .int .i64 (rd x8_4 0), .int .i64 0, .int .i64 0, .int .i64 0, .int .i64 0, .int .i64 0, .string (⟨#[]⟩ : ByteArray)]) ?_ 5 _ rfl; (with_reducible repeat (first | refine bA ?_ _ | refine bB ?_ | refine bC ?_ _)); refine bH (cs := #[.int .i64 (ji30), .int .i64 (rd x8_4 0), .int .i64 0, .int .i64 0, .int .i64 0, .int .i64 0, .int .i64 0, .string (⟨#[]⟩ : ByteArray)]) ?_ 4 _ rfl; (with_reducible repeat (first | refine bA ?_ _ | refine bB ?_ | refine bC ?_ _)); refine bH (cs := #[.int .i64 (ji30), .int .i64 (rd x8_4 0), .int .i64 0, .int .i64 0, .int .i64 0, .int .i64 0, .int .i64 0, .string (⟨#[]⟩ : ByteArray)]) ?_ 3 _ rfl; (with_reducible repeat (first | refine bA ?_ _ | refine bB ?_ | refine bC ?_ _)); refine bH (cs := #[.int .i64 (ji30), .int .i64 (rd x8_4 0), .int .i64 0, .int .i64 0, .int .i64 0, .int .i64 0, .int .i64 0, .string (⟨#[]⟩ : ByteArray)]) ?_ 2 _ rfl; (with_reducible repeat (first | refine bA ?_ _ | refine bB ?_ | refine bC ?_ _)); refine bH (cs := #[.int .i64 (ji30), .int .i64 0, .int .i64 0, .int .i64 0, .int .i64 0, .int .i64 0, .int .i64 0, .string (⟨#[]⟩ : ByteArray)]) ?_ 1 _ rfl; (with_reducible repeat (first | refine bA ?_ _ | refine bB ?_ | refine bC ?_ _)); refine bH (cs := #[.int .i64 0, .int .i64 0, .int .i64 0, .int .i64 0, .int .i64 0, .int .i64 0, .int .i64 0, .string (⟨#[]⟩ : ByteArray)]) ?_ 0 _ rfl; (with_reducible repeat (first | refine bA ?_ _ | refine bB ?_ | refine bC ?_ _)); exact BK165.out⟩, ⟨by repeat (first | (with_reducible first | exact HB.out | apply bE | apply bD | apply bF | refine below_set ?_ GE144.out | refine below_set ?_ GE145.out | refine below_set ?_ GE165.out) | exact HB.out)⟩⟩
                     ·rw [if_neg c90] at H
                      exact absurd H (by simp)
                    ·rw [if_neg c89] at H
                     exact absurd H (by simp)
                 case rest =>
                  clear HC51
                  try clear p1
                  try clear q1
                  try clear hx1
                  try clear qi1
                  try clear p2
                  try clear c4
                  try clear c5
                  try clear c6
                  try clear p6
                  try clear c7
                  try clear hcv7
                  try clear c8
                  try clear c9
                  try clear p16
                  try clear q16
                  try clear hx16
                  try clear qi16
                  try clear p17
                  try clear q17
                  try clear hx17
                  try clear qi17
                  try clear c45
                  try clear c57
                  try clear c57b0
                  try clear c57b1
                  try clear c58
                  try clear c59
                  try clear p64
                  try clear c67
                  try clear c68
                  try clear c69
                  try clear c70
                  try clear c71
                  try clear hcv74
                  try clear c75
                  try clear c75b0
                  try clear c75b1
                  try clear c76
                  try clear c76b0
                  try clear c76b1
                  try clear c77
                  try clear c77b0
                  try clear c77b1
                  try clear c78
                  try clear c78b0
                  try clear c78b1
                  try clear c80
                  try clear c80b0
                  try clear c80b1
                  try clear c82
                  try clear c83
                  try clear c89
                  try clear c89b0
                  try clear c89b1
                  try clear c90
                  try clear c90b0
                  try clear c90b1
                  try clear c91
                  try clear c92
                  try clear hcz72_0
                  try clear hcz72_1
                  try clear hcz72_2
                  try clear hcz72_3
                  try clear hcz72_4
                  try clear hcz72_5
                  try clear hcz72_6
                  try clear hcz72_7
                  try clear hcz84_0
                  try clear hcz84_1
                  try clear hcz84_2
                  try clear hcz84_3
                  try clear hcz84_4
                  try clear hcz84_5
                  try clear hcz84_6
                  try clear hcz84_7
                  try clear hcz93_0
                  try clear hcz93_1
                  try clear hcz93_2
                  try clear hcz93_3
                  try clear hcz93_4
                  try clear hcz93_5
                  try clear hcz93_6
                  try clear hcz93_7
                  try clear hfz72_0
                  try clear hfz72_1
                  try clear hfz72_2
                  try clear hfz72_3
                  try clear hfz72_4
                  try clear hfz72_5
                  try clear hfz72_6
                  try clear hfz72_7
                  try clear hfz84_0
                  try clear hfz84_1
                  try clear hfz84_2
                  try clear hfz84_3
                  try clear hfz84_4
                  try clear hfz84_5
                  try clear hfz84_6
                  try clear hfz84_7
                  try clear hfz93_0
                  try clear hfz93_1
                  try clear hfz93_2
                  try clear hfz93_3
                  try clear hfz93_4
                  try clear hfz93_5
                  try clear hfz93_6
                  try clear hfz93_7
                  try clear hx166_0
                  try clear hx167_0
                  try clear hx168_0
                  try clear hx170_0
                  try clear hx171_0
                  try clear hx172_0
                  try clear hx173_0
                  try clear hx175_0
                  try clear hx177_0
                  try clear hx178_0
                  try clear p166
                  try clear p167
                  try clear p168
                  try clear p170
                  try clear p171
                  try clear p172
                  try clear p173
                  try clear p175
                  try clear p177
                  try clear p178
                  try clear q166
                  try clear q167
                  try clear q168
                  try clear q170
                  try clear q171
                  try clear q172
                  try clear q173
                  try clear q175
                  try clear q177
                  try clear q178
                  obtain ⟨kq, x9_50, x145000_50, x145001_50, x145002_50, x145003_50, x145004_50, x145005_50, x145006_50, x145007_50, x166002_50, x166003_50, x166004_50, x166005_50, x166006_50, x166007_50, rfl, HA, HJ50, BK144, BK145, BK165, HB⟩ := hcut
                  cases kq with
                  | zero => exact absurd HA.out (by simp [spec_Unpack.j4])
                  | succ kj50 =>
                   have H := HA.out
                   clear HA
                   simp only [spec_Unpack.j4] at H
                   by_cases c94 : x9_50 < (yy17.length : Int)
                   ·rw [if_pos c94] at H
                    have c94b0 : decide (x9_50 < (yy17.length : Int)) = true := decide_eq_true c94
                    clear c94
                    simp only [zI, zJ] at H
                    obtain ⟨rfl, rfl, rfl, rfl, rfl, rfl, rfl, rfl, rfl⟩ := H
                    have hnb95 := NB145_144.out
                    have hnc95 := NB144_145.out
                    have hnb96 := NB145_165.out
                    have hnc96 := NB165_145.out
                    have hcz97_0 : wc.cell? ⟨gb145, 0, none⟩ = some (.int .i64 0) := (blk_cell BK145.out 0).trans rfl
                    have hcz97_1 : wc.cell? ⟨gb145, 1, none⟩ = some (.int .i64 0) := (blk_cell BK145.out 1).trans rfl
                    have hcz97_2 : wc.cell? ⟨gb145, 2, none⟩ = some (.int .i64 0) := (blk_cell BK145.out 2).trans rfl
                    have hcz97_3 : wc.cell? ⟨gb145, 3, none⟩ = some (.int .i64 0) := (blk_cell BK145.out 3).trans rfl
                    have hcz97_4 : wc.cell? ⟨gb145, 4, none⟩ = some (.int .i64 0) := (blk_cell BK145.out 4).trans rfl
                    have hcz97_5 : wc.cell? ⟨gb145, 5, none⟩ = some (.int .i64 0) := (blk_cell BK145.out 5).trans rfl
                    have hcz97_6 : wc.cell? ⟨gb145, 6, none⟩ = some (.int .i64 0) := (blk_cell BK145.out 6).trans rfl
                    have hcz97_7 : wc.cell? ⟨gb145, 7, none⟩ = some (.string (⟨#[]⟩ : ByteArray)) := (blk_cell BK145.out 7).trans rfl
                    have hfz97_0 := blk_frozen BK145.out 0
                    have hfz97_1 := blk_frozen BK145.out 1
                    have hfz97_2 := blk_frozen BK145.out 2
                    have hfz97_3 := blk_frozen BK145.out 3
                    have hfz97_4 := blk_frozen BK145.out 4
                    have hfz97_5 := blk_frozen BK145.out 5
                    have hfz97_6 := blk_frozen BK145.out 6
                    have hfz97_7 := blk_frozen BK145.out 7
                    have hnb98 := NB144_165.out
                    have hnc98 := NB165_144.out
                    have hcz99_0 : wc.cell? ⟨gb144, 0, none⟩ = some (.int .i64 x145000_50) := (blk_cell BK144.out 0).trans rfl
                    have hcz99_1 : wc.cell? ⟨gb144, 1, none⟩ = some (.int .i64 x145001_50) := (blk_cell BK144.out 1).trans rfl
                    have hcz99_2 : wc.cell? ⟨gb144, 2, none⟩ = some (.int .i64 x145002_50) := (blk_cell BK144.out 2).trans rfl
                    have hcz99_3 : wc.cell? ⟨gb144, 3, none⟩ = some (.int .i64 x145003_50) := (blk_cell BK144.out 3).trans rfl
                    have hcz99_4 : wc.cell? ⟨gb144, 4, none⟩ = some (.int .i64 x145004_50) := (blk_cell BK144.out 4).trans rfl
                    have hcz99_5 : wc.cell? ⟨gb144, 5, none⟩ = some (.int .i64 x145005_50) := (blk_cell BK144.out 5).trans rfl
                    have hcz99_6 : wc.cell? ⟨gb144, 6, none⟩ = some (.int .i64 x145006_50) := (blk_cell BK144.out 6).trans rfl
                    have hcz99_7 : wc.cell? ⟨gb144, 7, none⟩ = some (.string x145007_50) := (blk_cell BK144.out 7).trans rfl
                    have hfz99_0 := blk_frozen BK144.out 0
                    have hfz99_1 := blk_frozen BK144.out 1
                    have hfz99_2 := blk_frozen BK144.out 2
                    have hfz99_3 := blk_frozen BK144.out 3
                    have hfz99_4 := blk_frozen BK144.out 4
                    have hfz99_5 := blk_frozen BK144.out 5
                    have hfz99_6 := blk_frozen BK144.out 6
                    have hfz99_7 := blk_frozen BK144.out 7
                    go_wp2
                    refine bodyPost_ret (results_ct rfl _ _ gb144 32 #[.int .i64 0, .int .i64 0, .int .i64 0, .int .i64 0, .int .i64 0, .int .i64 0, .int .i64 0, .string (⟨#[]⟩ : ByteArray)] (0, 0) _ rfl (by (with_reducible repeat (first | refine bA ?_ _ | refine bB ?_ | refine bC ?_ _)); refine bH (cs := #[.int .i64 0, .int .i64 0, .int .i64 0, .int .i64 0, .int .i64 0, .int .i64 0, .int .i64 0, .string x145007_50]) ?_ 7 _ rfl; (with_reducible repeat (first | refine bA ?_ _ | refine bB ?_ | refine bC ?_ _)); refine bH (cs := #[.int .i64 0, .int .i64 0, .int .i64 0, .int .i64 0, .int .i64 0, .int .i64 0, .int .i64 x145006_50, .string x145007_50]) ?_ 6 _ rfl; (with_reducible repeat (first | refine bA ?_ _ | refine bB ?_ | refine bC ?_ _)); refine bH (cs := #[.int .i64 0, .int .i64 0, .int .i64 0, .int .i64 0, .int .i64 0, .int .i64 x145005_50, .int .i64 x145006_50, .string x145007_50]) ?_ 5 _ rfl; (with_reducible repeat (first | refine bA ?_ _ | refine bB ?_ | refine bC ?_ _)); refine bH (cs := #[.int .i64 0, .int .i64 0, .int .i64 0, .int .i64 0, .int .i64 x145004_50, .int .i64 x145005_50, .int .i64 x145006_50, .string x145007_50]) ?_ 4 _ rfl; (with_reducible repeat (first | refine bA ?_ _ | refine bB ?_ | refine bC ?_ _)); refine bH (cs := #[.int .i64 0, .int .i64 0, .int .i64 0, .int .i64 x145003_50, .int .i64 x145004_50, .int .i64 x145005_50, .int .i64 x145006_50, .string x145007_50]) ?_ 3 _ rfl; (with_reducible repeat (first | refine bA ?_ _ | refine bB ?_ | refine bC ?_ _)); refine bH (cs := #[.int .i64 0, .int .i64 0, .int .i64 x145002_50, .int .i64 x145003_50, .int .i64 x145004_50, .int .i64 x145005_50, .int .i64 x145006_50, .string x145007_50]) ?_ 2 _ rfl; (with_reducible repeat (first | refine bA ?_ _ | refine bB ?_ | refine bC ?_ _)); refine bH (cs := #[.int .i64 0, .int .i64 x145001_50, .int .i64 x145002_50, .int .i64 x145003_50, .int .i64 x145004_50, .int .i64 x145005_50, .int .i64 x145006_50, .string x145007_50]) ?_ 1 _ rfl; (with_reducible repeat (first | refine bA ?_ _ | refine bB ?_ | refine bC ?_ _)); refine bH (cs := #[.int .i64 x145000_50, .int .i64 x145001_50, .int .i64 x145002_50, .int .i64 x145003_50, .int .i64 x145004_50, .int .i64 x145005_50, .int .i64 x145006_50, .string x145007_50]) ?_ 0 _ rfl; (with_reducible repeat (first | refine bA ?_ _ | refine bB ?_ | refine bC ?_ _)); exact BK144.out) Try.underlying32 rfl (by kernel_rfl)) rfl ?_
                    exact ⟨by first | rfl | (simp only [← hji11, ← hji30]; first | rfl | (simp [errW_none, errW_some] <;> rfl)) | (simp [*, errW_none, errW_some] <;> rfl), by repeat (first | (with_reducible first | exact HB.out | apply bE | apply bD | apply bF | refine below_set ?_ GE144.out | refine below_set ?_ GE145.out | refine below_set ?_ GE165.out) | exact HB.out)⟩
                   ·rw [if_neg c94] at H
                    have c94b0 : decide (x9_50 < (yy17.length : Int)) = false := decide_eq_false c94
                    clear c94
                    replace H := zO H
                    obtain ⟨t179, A1000, H⟩ := H
                    replace H : (if t179 = true then (some ((ji30), (rd x8_4 0), x166002_50, x166003_50, x166004_50, x166005_50, x166006_50, x166007_50, 0)) else (some (0, 0, 0, 0, 0, 0, 0, (⟨#[]⟩ : ByteArray), 5))) = some (r1, r2, r3, r4, r5, r6, r7, r8, r9) := H
                    have A100 := zM A1000
                    clear A1000
                    by_cases c101 : t179 = true
                    ·subst c101
                     have H1 : (some ((ji30), (rd x8_4 0), x166002_50, x166003_50, x166004_50, x166005_50, x166006_50, x166007_50, 0)) = some (r1, r2, r3, r4, r5, r6, r7, r8, r9) := by rw [if_pos rfl] at H; exact H
                     clear H
                     have H := H1
                     clear H1
                     simp only [zI, zJ] at H
                     obtain ⟨rfl, rfl, rfl, rfl, rfl, rfl, rfl, rfl, rfl⟩ := H
                     have hnb102 := NB165_144.out
                     have hnc102 := NB144_165.out
                     have hnb103 := NB165_145.out
                     have hnc103 := NB145_165.out
                     have hcz104_0 : wc.cell? ⟨gb165, 0, none⟩ = some (.int .i64 (ji30)) := (blk_cell BK165.out 0).trans rfl
                     have hcz104_1 : wc.cell? ⟨gb165, 1, none⟩ = some (.int .i64 (rd x8_4 0)) := (blk_cell BK165.out 1).trans rfl
                     have hcz104_2 : wc.cell? ⟨gb165, 2, none⟩ = some (.int .i64 x166002_50) := (blk_cell BK165.out 2).trans rfl
                     have hcz104_3 : wc.cell? ⟨gb165, 3, none⟩ = some (.int .i64 x166003_50) := (blk_cell BK165.out 3).trans rfl
                     have hcz104_4 : wc.cell? ⟨gb165, 4, none⟩ = some (.int .i64 x166004_50) := (blk_cell BK165.out 4).trans rfl
                     have hcz104_5 : wc.cell? ⟨gb165, 5, none⟩ = some (.int .i64 x166005_50) := (blk_cell BK165.out 5).trans rfl
                     have hcz104_6 : wc.cell? ⟨gb165, 6, none⟩ = some (.int .i64 x166006_50) := (blk_cell BK165.out 6).trans rfl
                     have hcz104_7 : wc.cell? ⟨gb165, 7, none⟩ = some (.string x166007_50) := (blk_cell BK165.out 7).trans rfl
                     have hfz104_0 := blk_frozen BK165.out 0
                     have hfz104_1 := blk_frozen BK165.out 1
                     have hfz104_2 := blk_frozen BK165.out 2
                     have hfz104_3 := blk_frozen BK165.out 3
                     have hfz104_4 := blk_frozen BK165.out 4
                     have hfz104_5 := blk_frozen BK165.out 5
                     have hfz104_6 := blk_frozen BK165.out 6
                     have hfz104_7 := blk_frozen BK165.out 7
                     go_wp2_with (first | ((with_reducible refine gate_callee (f := 23) rfl ?_); refine goesL_ (some 143) rfl rfl Try.func23 (by kernel_rfl) rfl #[.agg #[.int .i64 (ji30), .int .i64 (rd x8_4 0), .int .i64 x166002_50, .int .i64 x166003_50, .int .i64 x166004_50, .int .i64 x166005_50, .int .i64 x166006_50, .string x166007_50]] rfl (by (try simp only [List.map_toArray, List.map_cons, List.map_nil]); first | done | (simp only [hji30]; rfl) | rfl | (simp only [List.length_drop, List.length_take]; rfl)) ?_; (with_reducible refine (spec_MsgOk.calls kj50 (ji30) (rd x8_4 0) x166002_50 x166003_50 x166004_50 x166005_50 x166006_50 x166007_50 true _ A100.out).mono ?_); rintro e w105 ⟨rfl, hb⟩; refine ⟨_, rfl, ?_⟩; have n0_ := zM (blk_below (g := gb144) (o := .cells #[.int .i64 x145000_50, .int .i64 x145001_50, .int .i64 x145002_50, .int .i64 x145003_50, .int .i64 x145004_50, .int .i64 x145005_50, .int .i64 x145006_50, .string x145007_50] 32 (0, 0)) (by (with_reducible repeat (first | refine bA ?_ _ | refine bB ?_ | refine bC ?_ _)); exact BK144.out) hb); have n1_ := zM (blk_below (g := gb145) (o := .cells #[.int .i64 0, .int .i64 0, .int .i64 0, .int .i64 0, .int .i64 0, .int .i64 0, .int .i64 0, .string (⟨#[]⟩ : ByteArray)] 32 (0, 0)) (by (with_reducible repeat (first | refine bA ?_ _ | refine bB ?_ | refine bC ?_ _)); exact BK145.out) hb); have n2_ := zM (blk_below (g := gb165) (o := .cells #[.int .i64 (ji30), .int .i64 (rd x8_4 0), .int .i64 x166002_50, .int .i64 x166003_50, .int .i64 x166004_50, .int .i64 x166005_50, .int .i64 x166006_50, .string x166007_50] 32 (0, 0)) (by (with_reducible repeat (first | refine bA ?_ _ | refine bB ?_ | refine bC ?_ _)); exact BK165.out) hb); have n3_ := zM (bG (by repeat (first | (with_reducible first | exact HB.out | apply bE | apply bD | apply bF | refine below_set ?_ GE144.out | refine below_set ?_ GE145.out | refine below_set ?_ GE165.out) | exact HB.out)) hb); clear BK144; clear BK145; clear BK165; clear HB; have BK144 := n0_; have BK145 := n1_; have BK165 := n2_; have HB := n3_; clear n0_ n1_ n2_ n3_; (try clear hb); (try clear hk); (try clear hi); have hcz106_0 : w105.cell? ⟨gb165, 0, none⟩ = some (.int .i64 (ji30)) := (blk_cell BK165.out 0).trans rfl; have hcz106_1 : w105.cell? ⟨gb165, 1, none⟩ = some (.int .i64 (rd x8_4 0)) := (blk_cell BK165.out 1).trans rfl; have hcz106_2 : w105.cell? ⟨gb165, 2, none⟩ = some (.int .i64 x166002_50) := (blk_cell BK165.out 2).trans rfl; have hcz106_3 : w105.cell? ⟨gb165, 3, none⟩ = some (.int .i64 x166003_50) := (blk_cell BK165.out 3).trans rfl; have hcz106_4 : w105.cell? ⟨gb165, 4, none⟩ = some (.int .i64 x166004_50) := (blk_cell BK165.out 4).trans rfl; have hcz106_5 : w105.cell? ⟨gb165, 5, none⟩ = some (.int .i64 x166005_50) := (blk_cell BK165.out 5).trans rfl; have hcz106_6 : w105.cell? ⟨gb165, 6, none⟩ = some (.int .i64 x166006_50) := (blk_cell BK165.out 6).trans rfl; have hcz106_7 : w105.cell? ⟨gb165, 7, none⟩ = some (.string x166007_50) := (blk_cell BK165.out 7).trans rfl; have hfz106_0 := blk_frozen BK165.out 0; have hfz106_1 := blk_frozen BK165.out 1; have hfz106_2 := blk_frozen BK165.out 2; have hfz106_3 := blk_frozen BK165.out 3; have hfz106_4 := blk_frozen BK165.out 4; have hfz106_5 := blk_frozen BK165.out 5; have hfz106_6 := blk_frozen BK165.out 6; have hfz106_7 := blk_frozen BK165.out 7; have hnb107 := NB144_145.out; have hnc107 := NB145_144.out; have hcz108_0 : w105.cell? ⟨gb144, 0, none⟩ = some (.int .i64 x145000_50) := (blk_cell BK144.out 0).trans rfl; have hcz108_1 : w105.cell? ⟨gb144, 1, none⟩ = some (.int .i64 x145001_50) := (blk_cell BK144.out 1).trans rfl; have hcz108_2 : w105.cell? ⟨gb144, 2, none⟩ = some (.int .i64 x145002_50) := (blk_cell BK144.out 2).trans rfl; have hcz108_3 : w105.cell? ⟨gb144, 3, none⟩ = some (.int .i64 x145003_50) := (blk_cell BK144.out 3).trans rfl; have hcz108_4 : w105.cell? ⟨gb144, 4, none⟩ = some (.int .i64 x145004_50) := (blk_cell BK144.out 4).trans rfl; have hcz108_5 : w105.cell? ⟨gb144, 5, none⟩ = some (.int .i64 x145005_50) := (blk_cell BK144.out 5).trans rfl; have hcz108_6 : w105.cell? ⟨gb144, 6, none⟩ = some (.int .i64 x145006_50) := (blk_cell BK144.out 6).trans rfl; have hcz108_7 : w105.cell? ⟨gb144, 7, none⟩ = some (.string x145007_50) := (blk_cell BK144.out 7).trans rfl; have hfz108_0 := blk_frozen BK144.out 0; have hfz108_1 := blk_frozen BK144.out 1; have hfz108_2 := blk_frozen BK144.out 2; have hfz108_3 := blk_frozen BK144.out 3; have hfz108_4 := blk_frozen BK144.out 4; have hfz108_5 := blk_frozen BK144.out 5; have hfz108_6 := blk_frozen BK144.out 6; have hfz108_7 := blk_frozen BK144.out 7))
                     refine bodyPost_ret (results_ct rfl _ _ gb144 32 #[.int .i64 (ji30), .int .i64 (rd x8_4 0), .int .i64 x166002_50, .int .i64 x166003_50, .int .i64 x166004_50, .int .i64 x166005_50, .int .i64 x166006_50, .string x166007_50] (0, 0) _ rfl (by (with_reducible repeat (first | refine bA ?_ _ | refine bB ?_ | refine bC ?_ _)); refine bH (cs := #[.int .i64 (ji30), .int .i64 (rd x8_4 0), .int .i64 x166002_50, .int .i64 x166003_50, .int .i64 x166004_50, .int .i64 x166005_50, .int .i64 x166006_50, .string x145007_50]) ?_ 7 _ rfl; (with_reducible repeat (first | refine bA ?_ _ | refine bB ?_ | refine bC ?_ _)); refine bH (cs := #[.int .i64 (ji30), .int .i64 (rd x8_4 0), .int .i64 x166002_50, .int .i64 x166003_50, .int .i64 x166004_50, .int .i64 x166005_50, .int .i64 x145006_50, .string x145007_50]) ?_ 6 _ rfl; (with_reducible repeat (first | refine bA ?_ _ | refine bB ?_ | refine bC ?_ _)); refine bH (cs := #[.int .i64 (ji30), .int .i64 (rd x8_4 0), .int .i64 x166002_50, .int .i64 x166003_50, .int .i64 x166004_50, .int .i64 x145005_50, .int .i64 x145006_50, .string x145007_50]) ?_ 5 _ rfl; (with_reducible repeat (first | refine bA ?_ _ | refine bB ?_ | refine bC ?_ _)); refine bH (cs := #[.int .i64 (ji30), .int .i64 (rd x8_4 0), .int .i64 x166002_50, .int .i64 x166003_50, .int .i64 x145004_50, .int .i64 x145005_50, .int .i64 x145006_50, .string x145007_50]) ?_ 4 _ rfl; (with_reducible repeat (first | refine bA ?_ _ | refine bB ?_ | refine bC ?_ _)); refine bH (cs := #[.int .i64 (ji30), .int .i64 (rd x8_4 0), .int .i64 x166002_50, .int .i64 x145003_50, .int .i64 x145004_50, .int .i64 x145005_50, .int .i64 x145006_50, .string x145007_50]) ?_ 3 _ rfl; (with_reducible repeat (first | refine bA ?_ _ | refine bB ?_ | refine bC ?_ _)); refine bH (cs := #[.int .i64 (ji30), .int .i64 (rd x8_4 0), .int .i64 x145002_50, .int .i64 x145003_50, .int .i64 x145004_50, .int .i64 x145005_50, .int .i64 x145006_50, .string x145007_50]) ?_ 2 _ rfl; (with_reducible repeat (first | refine bA ?_ _ | refine bB ?_ | refine bC ?_ _)); refine bH (cs := #[.int .i64 (ji30), .int .i64 x145001_50, .int .i64 x145002_50, .int .i64 x145003_50, .int .i64 x145004_50, .int .i64 x145005_50, .int .i64 x145006_50, .string x145007_50]) ?_ 1 _ rfl; (with_reducible repeat (first | refine bA ?_ _ | refine bB ?_ | refine bC ?_ _)); refine bH (cs := #[.int .i64 x145000_50, .int .i64 x145001_50, .int .i64 x145002_50, .int .i64 x145003_50, .int .i64 x145004_50, .int .i64 x145005_50, .int .i64 x145006_50, .string x145007_50]) ?_ 0 _ rfl; (with_reducible repeat (first | refine bA ?_ _ | refine bB ?_ | refine bC ?_ _)); exact BK144.out) Try.underlying32 rfl (by kernel_rfl)) rfl ?_
                     exact ⟨by first | rfl | (simp only [← hji11, ← hji30]; first | rfl | (simp [errW_none, errW_some] <;> rfl)) | (simp [*, errW_none, errW_some] <;> rfl), by repeat (first | (with_reducible first | exact HB.out | apply bE | apply bD | apply bF | refine below_set ?_ GE144.out | refine below_set ?_ GE145.out | refine below_set ?_ GE165.out) | exact HB.out)⟩
                    ·replace c101 := Bool.eq_false_iff.mpr c101
                     subst c101
                     have H1 : (some (0, 0, 0, 0, 0, 0, 0, (⟨#[]⟩ : ByteArray), 5)) = some (r1, r2, r3, r4, r5, r6, r7, r8, r9) := by rw [if_neg (show ¬ (false = true) by decide)] at H; exact H
                     clear H
                     have H := H1
                     clear H1
                     simp only [zI, zJ] at H
                     obtain ⟨rfl, rfl, rfl, rfl, rfl, rfl, rfl, rfl, rfl⟩ := H
                     have hnb109 := NB165_144.out
                     have hnc109 := NB144_165.out
                     have hnb110 := NB165_145.out
                     have hnc110 := NB145_165.out
                     have hcz111_0 : wc.cell? ⟨gb165, 0, none⟩ = some (.int .i64 (ji30)) := (blk_cell BK165.out 0).trans rfl
                     have hcz111_1 : wc.cell? ⟨gb165, 1, none⟩ = some (.int .i64 (rd x8_4 0)) := (blk_cell BK165.out 1).trans rfl
                     have hcz111_2 : wc.cell? ⟨gb165, 2, none⟩ = some (.int .i64 x166002_50) := (blk_cell BK165.out 2).trans rfl
                     have hcz111_3 : wc.cell? ⟨gb165, 3, none⟩ = some (.int .i64 x166003_50) := (blk_cell BK165.out 3).trans rfl
                     have hcz111_4 : wc.cell? ⟨gb165, 4, none⟩ = some (.int .i64 x166004_50) := (blk_cell BK165.out 4).trans rfl
                     have hcz111_5 : wc.cell? ⟨gb165, 5, none⟩ = some (.int .i64 x166005_50) := (blk_cell BK165.out 5).trans rfl
                     have hcz111_6 : wc.cell? ⟨gb165, 6, none⟩ = some (.int .i64 x166006_50) := (blk_cell BK165.out 6).trans rfl
                     have hcz111_7 : wc.cell? ⟨gb165, 7, none⟩ = some (.string x166007_50) := (blk_cell BK165.out 7).trans rfl
                     have hfz111_0 := blk_frozen BK165.out 0
                     have hfz111_1 := blk_frozen BK165.out 1
                     have hfz111_2 := blk_frozen BK165.out 2
                     have hfz111_3 := blk_frozen BK165.out 3
                     have hfz111_4 := blk_frozen BK165.out 4
                     have hfz111_5 := blk_frozen BK165.out 5
                     have hfz111_6 := blk_frozen BK165.out 6
                     have hfz111_7 := blk_frozen BK165.out 7
                     go_wp2_with (first | ((with_reducible refine gate_callee (f := 23) rfl ?_); refine goesL_ (some 143) rfl rfl Try.func23 (by kernel_rfl) rfl #[.agg #[.int .i64 (ji30), .int .i64 (rd x8_4 0), .int .i64 x166002_50, .int .i64 x166003_50, .int .i64 x166004_50, .int .i64 x166005_50, .int .i64 x166006_50, .string x166007_50]] rfl (by (try simp only [List.map_toArray, List.map_cons, List.map_nil]); first | done | (simp only [hji30]; rfl) | rfl | (simp only [List.length_drop, List.length_take]; rfl)) ?_; (with_reducible refine (spec_MsgOk.calls kj50 (ji30) (rd x8_4 0) x166002_50 x166003_50 x166004_50 x166005_50 x166006_50 x166007_50 false _ A100.out).mono ?_); rintro e w112 ⟨rfl, hb⟩; refine ⟨_, rfl, ?_⟩; have n0_ := zM (blk_below (g := gb144) (o := .cells #[.int .i64 x145000_50, .int .i64 x145001_50, .int .i64 x145002_50, .int .i64 x145003_50, .int .i64 x145004_50, .int .i64 x145005_50, .int .i64 x145006_50, .string x145007_50] 32 (0, 0)) (by (with_reducible repeat (first | refine bA ?_ _ | refine bB ?_ | refine bC ?_ _)); exact BK144.out) hb); have n1_ := zM (blk_below (g := gb145) (o := .cells #[.int .i64 0, .int .i64 0, .int .i64 0, .int .i64 0, .int .i64 0, .int .i64 0, .int .i64 0, .string (⟨#[]⟩ : ByteArray)] 32 (0, 0)) (by (with_reducible repeat (first | refine bA ?_ _ | refine bB ?_ | refine bC ?_ _)); exact BK145.out) hb); have n2_ := zM (blk_below (g := gb165) (o := .cells #[.int .i64 (ji30), .int .i64 (rd x8_4 0), .int .i64 x166002_50, .int .i64 x166003_50, .int .i64 x166004_50, .int .i64 x166005_50, .int .i64 x166006_50, .string x166007_50] 32 (0, 0)) (by (with_reducible repeat (first | refine bA ?_ _ | refine bB ?_ | refine bC ?_ _)); exact BK165.out) hb); have n3_ := zM (bG (by repeat (first | (with_reducible first | exact HB.out | apply bE | apply bD | apply bF | refine below_set ?_ GE144.out | refine below_set ?_ GE145.out | refine below_set ?_ GE165.out) | exact HB.out)) hb); clear BK144; clear BK145; clear BK165; clear HB; have BK144 := n0_; have BK145 := n1_; have BK165 := n2_; have HB := n3_; clear n0_ n1_ n2_ n3_; (try clear hb); (try clear hk); (try clear hi); have hnb113 := NB145_144.out; have hnc113 := NB144_145.out; have hcz114_0 : w112.cell? ⟨gb145, 0, none⟩ = some (.int .i64 0) := (blk_cell BK145.out 0).trans rfl; have hcz114_1 : w112.cell? ⟨gb145, 1, none⟩ = some (.int .i64 0) := (blk_cell BK145.out 1).trans rfl; have hcz114_2 : w112.cell? ⟨gb145, 2, none⟩ = some (.int .i64 0) := (blk_cell BK145.out 2).trans rfl; have hcz114_3 : w112.cell? ⟨gb145, 3, none⟩ = some (.int .i64 0) := (blk_cell BK145.out 3).trans rfl; have hcz114_4 : w112.cell? ⟨gb145, 4, none⟩ = some (.int .i64 0) := (blk_cell BK145.out 4).trans rfl; have hcz114_5 : w112.cell? ⟨gb145, 5, none⟩ = some (.int .i64 0) := (blk_cell BK145.out 5).trans rfl; have hcz114_6 : w112.cell? ⟨gb145, 6, none⟩ = some (.int .i64 0) := (blk_cell BK145.out 6).trans rfl; have hcz114_7 : w112.cell? ⟨gb145, 7, none⟩ = some (.string (⟨#[]⟩ : ByteArray)) := (blk_cell BK145.out 7).trans rfl; have hfz114_0 := blk_frozen BK145.out 0; have hfz114_1 := blk_frozen BK145.out 1; have hfz114_2 := blk_frozen BK145.out 2; have hfz114_3 := blk_frozen BK145.out 3; have hfz114_4 := blk_frozen BK145.out 4; have hfz114_5 := blk_frozen BK145.out 5; have hfz114_6 := blk_frozen BK145.out 6; have hfz114_7 := blk_frozen BK145.out 7; have hcz115_0 : w112.cell? ⟨gb144, 0, none⟩ = some (.int .i64 x145000_50) := (blk_cell BK144.out 0).trans rfl; have hcz115_1 : w112.cell? ⟨gb144, 1, none⟩ = some (.int .i64 x145001_50) := (blk_cell BK144.out 1).trans rfl; have hcz115_2 : w112.cell? ⟨gb144, 2, none⟩ = some (.int .i64 x145002_50) := (blk_cell BK144.out 2).trans rfl; have hcz115_3 : w112.cell? ⟨gb144, 3, none⟩ = some (.int .i64 x145003_50) := (blk_cell BK144.out 3).trans rfl; have hcz115_4 : w112.cell? ⟨gb144, 4, none⟩ = some (.int .i64 x145004_50) := (blk_cell BK144.out 4).trans rfl; have hcz115_5 : w112.cell? ⟨gb144, 5, none⟩ = some (.int .i64 x145005_50) := (blk_cell BK144.out 5).trans rfl; have hcz115_6 : w112.cell? ⟨gb144, 6, none⟩ = some (.int .i64 x145006_50) := (blk_cell BK144.out 6).trans rfl; have hcz115_7 : w112.cell? ⟨gb144, 7, none⟩ = some (.string x145007_50) := (blk_cell BK144.out 7).trans rfl; have hfz115_0 := blk_frozen BK144.out 0; have hfz115_1 := blk_frozen BK144.out 1; have hfz115_2 := blk_frozen BK144.out 2; have hfz115_3 := blk_frozen BK144.out 3; have hfz115_4 := blk_frozen BK144.out 4; have hfz115_5 := blk_frozen BK144.out 5; have hfz115_6 := blk_frozen BK144.out 6; have hfz115_7 := blk_frozen BK144.out 7))
                     refine bodyPost_ret (results_ct rfl _ _ gb144 32 #[.int .i64 0, .int .i64 0, .int .i64 0, .int .i64 0, .int .i64 0, .int .i64 0, .int .i64 0, .string (⟨#[]⟩ : ByteArray)] (0, 0) _ rfl (by (with_reducible repeat (first | refine bA ?_ _ | refine bB ?_ | refine bC ?_ _)); refine bH (cs := #[.int .i64 0, .int .i64 0, .int .i64 0, .int .i64 0, .int .i64 0, .int .i64 0, .int .i64 0, .string x145007_50]) ?_ 7 _ rfl; (with_reducible repeat (first | refine bA ?_ _ | refine bB ?_ | refine bC ?_ _)); refine bH (cs := #[.int .i64 0, .int .i64 0, .int .i64 0, .int .i64 0, .int .i64 0, .int .i64 0, .int .i64 x145006_50, .string x145007_50]) ?_ 6 _ rfl; (with_reducible repeat (first | refine bA ?_ _ | refine bB ?_ | refine bC ?_ _)); refine bH (cs := #[.int .i64 0, .int .i64 0, .int .i64 0, .int .i64 0, .int .i64 0, .int .i64 x145005_50, .int .i64 x145006_50, .string x145007_50]) ?_ 5 _ rfl; (with_reducible repeat (first | refine bA ?_ _ | refine bB ?_ | refine bC ?_ _)); refine bH (cs := #[.int .i64 0, .int .i64 0, .int .i64 0, .int .i64 0, .int .i64 x145004_50, .int .i64 x145005_50, .int .i64 x145006_50, .string x145007_50]) ?_ 4 _ rfl; (with_reducible repeat (first | refine bA ?_ _ | refine bB ?_ | refine bC ?_ _)); refine bH (cs := #[.int .i64 0, .int .i64 0, .int .i64 0, .int .i64 x145003_50, .int .i64 x145004_50, .int .i64 x145005_50, .int .i64 x145006_50, .string x145007_50]) ?_ 3 _ rfl; (with_reducible repeat (first | refine bA ?_ _ | refine bB ?_ | refine bC ?_ _)); refine bH (cs := #[.int .i64 0, .int .i64 0, .int .i64 x145002_50, .int .i64 x145003_50, .int .i64 x145004_50, .int .i64 x145005_50, .int .i64 x145006_50, .string x145007_50]) ?_ 2 _ rfl; (with_reducible repeat (first | refine bA ?_ _ | refine bB ?_ | refine bC ?_ _)); refine bH (cs := #[.int .i64 0, .int .i64 x145001_50, .int .i64 x145002_50, .int .i64 x145003_50, .int .i64 x145004_50, .int .i64 x145005_50, .int .i64 x145006_50, .string x145007_50]) ?_ 1 _ rfl; (with_reducible repeat (first | refine bA ?_ _ | refine bB ?_ | refine bC ?_ _)); refine bH (cs := #[.int .i64 x145000_50, .int .i64 x145001_50, .int .i64 x145002_50, .int .i64 x145003_50, .int .i64 x145004_50, .int .i64 x145005_50, .int .i64 x145006_50, .string x145007_50]) ?_ 0 _ rfl; (with_reducible repeat (first | refine bA ?_ _ | refine bB ?_ | refine bC ?_ _)); exact BK144.out) Try.underlying32 rfl (by kernel_rfl)) rfl ?_
                     exact ⟨by first | rfl | (simp only [← hji11, ← hji30]; first | rfl | (simp [errW_none, errW_some] <;> rfl)) | (simp [*, errW_none, errW_some] <;> rfl), by repeat (first | (with_reducible first | exact HB.out | apply bE | apply bD | apply bF | refine below_set ?_ GE144.out | refine below_set ?_ GE145.out | refine below_set ?_ GE165.out) | exact HB.out)⟩
                ·rw [if_neg c50] at H
                 exact absurd H (by simp)
            ·rw [if_neg c32] at H
             exact absurd H (by simp)
           ·rw [if_neg c31] at H
            exact absurd H (by simp)
        ·rw [if_neg c23] at H
         exact absurd H (by simp)
     ·rw [if_neg c15] at H
      exact absurd H (by simp)
    ·rw [if_neg c13] at H
     exact absurd H (by simp)
   ·rw [if_neg c12] at H
    exact absurd H (by simp)

end Go.Proofs.Ytpnfbekbkeiahaa.XFnExactSplitMsgs
