-- Written by a program of this claim's session (wip/xprint.py), out of the translation.
import Derived.Test.YtpnfbekbkeiahaaTESplitMsgsXFnExactSplitMsgsx0
import Derived.Test.YtpnfbekbkeiahaaTESplitMsgsXFnExactSplitMsgsx8
import Derived.Test.YtpnfbekbkeiahaaTESplitMsgsXFnExactSplitMsgsx9
namespace Go.Proofs.Ytpnfbekbkeiahaa.XFnExactSplitMsgs
open Go.RowKit Go.Proofs.YtpnfbekbkeiahaaW.PrintWords Go.Proofs.YtpnfbekbkeiahaaW.PrintLast Go.Proofs.YtpnfbekbkeiahaaW.PrintMore
open Go.Proofs.YtpnfbekbkeiahaaW.PrintWords renaming blk_drewN → bA, blk_drew → bB, blk_alloc → bC, pw_below_drewN → bD, below_alloc → bE, below_drew1 → bF, Aside0.mk → zM, below_step → bG, blk_put → bH
open List renaming setIfInBounds_toArray → zS, set_cons_zero → z0, set_cons_succ → z1
attribute [local go_sem] max2_int min2_int max_two min_two max_three min_three max_four min_four
set_option linter.unusedVariables false
set_option linter.unusedSimpArgs false
set_option maxHeartbeats 8000000
set_option maxRecDepth 100000

/-! ### impl_Unpack: function 19 -/
mutual
def impl_Unpack.j0 : Nat → List Int → Option (Int × Int × Int × Int × Int × Int × Int × ByteArray × Int)
 | 0, _ => none
 | k + 1, x0 => if 0 ≤ (wrap64 ((x0.length : Int) - 1)) then (if (wrap64 ((x0.length : Int) - 1)) < (x0.length : Int) then (if (wrap64 ((x0.length : Int) - 1)) ≤ (x0.length : Int) then ((impl_Check8.f k (x0.take ((wrap64 ((x0.length : Int) - 1)) : Int).toNat)).bind fun t221 => (if (wrap64 (rd x0 (wrap64 ((x0.length : Int) - 1)))) = t221 then (impl_Unpack.j1 k x0 (wrap64 ((x0.length : Int) - 1))) else (some (0, 0, 0, 0, 0, 0, 0, (⟨#[]⟩ : ByteArray), 2)))) else (none)) else (none)) else (none)
def impl_Unpack.j1 : Nat → List Int → Int → Option (Int × Int × Int × Int × Int × Int × Int × ByteArray × Int)
 | 0, _, _ => none
 | k + 1, x0, x4 => if 0 < (x0.length : Int) then ((impl_in.f (wrap64 (rd x0 0)) 1 3).bind fun t224 => (if t224 = true then (impl_Unpack.j2 k x0 x4 false (wrap64 (rd x0 0)) 0 0 0 0 0 0 (⟨#[]⟩ : ByteArray)) else (some (0, 0, 0, 0, 0, 0, 0, (⟨#[]⟩ : ByteArray), 3)))) else (none)
def impl_Unpack.j2 : Nat → List Int → Int → Bool → Int → Int → Int → Int → Int → Int → Int → ByteArray → Option (Int × Int × Int × Int × Int × Int × Int × ByteArray × Int)
 | 0, _, _, _, _, _, _, _, _, _, _, _ => none
 | k + 1, x0, x4, x6, x224000, x224001, x224002, x224003, x224004, x224005, x224006, x224007 => if 0 ≤ x4 then (if x4 ≤ (x0.length : Int) then ((impl_wire_num.f k (x0.take (x4 : Int).toNat) 1 false).bind fun bt227 => (if x224000 = 3 then ((impl_wire_num.f k (x0.take (x4 : Int).toNat) bt227.2.1 bt227.2.2).bind fun bt230 => ((impl_wire_num.f k (x0.take (x4 : Int).toNat) bt230.2.1 bt230.2.2).bind fun bt233 => ((impl_wire_text.f (x0.take (x4 : Int).toNat) bt233.2.1 bt233.2.2 bt233.1).bind fun bt236 => (impl_Unpack.j3 k x4 x6 x224000 bt227.1 x224002 x224003 x224004 x224005 bt230.1 bt236.1 (x0.take (x4 : Int).toNat) bt236.2.1 bt236.2.2)))) else ((impl_wire_num.f k (x0.take (x4 : Int).toNat) bt227.2.1 bt227.2.2).bind fun bt239 => ((impl_wire_num.f k (x0.take (x4 : Int).toNat) bt239.2.1 bt239.2.2).bind fun bt242 => (impl_Unpack.j3 k x4 x6 x224000 bt227.1 bt239.1 bt242.1 x224004 x224005 x224006 x224007 (x0.take (x4 : Int).toNat) bt242.2.1 bt242.2.2))))) else (none)) else (none)
def impl_Unpack.j3 : Nat → Int → Bool → Int → Int → Int → Int → Int → Int → Int → ByteArray → List Int → Int → Bool → Option (Int × Int × Int × Int × Int × Int × Int × ByteArray × Int)
 | 0, _, _, _, _, _, _, _, _, _, _, _, _, _ => none
 | k + 1, x4, x6, x224000, x224001, x224002, x224003, x224004, x224005, x224006, x224007, x227000, x227001, x227002 => if x224000 = 2 then ((impl_wire_num.f k x227000 x227001 x227002).bind fun bt245 => ((impl_wire_num.f k x227000 bt245.2.1 bt245.2.2).bind fun bt248 => (if bt245.1 > 2000000000000 then ((impl_Unfold.f bt245.1).bind fun t251 => ((impl_Unfold.f bt248.1).bind fun t252 => (impl_Unpack.j4 k x4 true x224000 x224001 x224002 x224003 t251 t252 x224006 x224007 x227000 bt248.2.1 bt248.2.2))) else ((impl_Unfold.f bt245.1).bind fun t253 => ((impl_Unfold.f bt248.1).bind fun t254 => (impl_Unpack.j4 k x4 (decide (bt248.1 > 2000000000000)) x224000 x224001 x224002 x224003 t253 t254 x224006 x224007 x227000 bt248.2.1 bt248.2.2)))))) else (impl_Unpack.j4 k x4 x6 x224000 x224001 x224002 x224003 x224004 x224005 x224006 x224007 x227000 x227001 x227002)
def impl_Unpack.j4 : Nat → Int → Bool → Int → Int → Int → Int → Int → Int → Int → ByteArray → List Int → Int → Bool → Option (Int × Int × Int × Int × Int × Int × Int × ByteArray × Int)
 | 0, _, _, _, _, _, _, _, _, _, _, _, _, _ => none
 | k + 1, x4, x6, x224000, x224001, x224002, x224003, x224004, x224005, x224006, x224007, x227000, x227001, x227002 => if x227002 = true then (some (0, 0, 0, 0, 0, 0, 0, (⟨#[]⟩ : ByteArray), 4)) else (if x227001 < x4 then (some (0, 0, 0, 0, 0, 0, 0, (⟨#[]⟩ : ByteArray), 6)) else (if x6 = true then (some (0, 0, 0, 0, 0, 0, 0, (⟨#[]⟩ : ByteArray), 5)) else ((impl_MsgOk.f x224000 x224001 x224002 x224003 x224004 x224005 x224006 x224007).bind fun t255 => (if t255 = true then (some (x224000, x224001, x224002, x224003, x224004, x224005, x224006, x224007, 0)) else (some (0, 0, 0, 0, 0, 0, 0, (⟨#[]⟩ : ByteArray), 5))))))
end
def impl_Unpack.f (k : Nat) (l0 : List Int) : Option (Int × Int × Int × Int × Int × Int × Int × ByteArray × Int) := if (l0.length : Int) < 2 then (some (0, 0, 0, 0, 0, 0, 0, (⟨#[]⟩ : ByteArray), 1)) else (impl_Unpack.j0 k l0)
theorem impl_Unpack.mono_l : ∀ k, (∀ y0, LeO (impl_Unpack.j0 k y0) (impl_Unpack.j0 (k + 1) y0)) ∧ (∀ y0 y1, LeO (impl_Unpack.j1 k y0 y1) (impl_Unpack.j1 (k + 1) y0 y1)) ∧ (∀ y0 y1 y2 y3 y4 y5 y6 y7 y8 y9 y10, LeO (impl_Unpack.j2 k y0 y1 y2 y3 y4 y5 y6 y7 y8 y9 y10) (impl_Unpack.j2 (k + 1) y0 y1 y2 y3 y4 y5 y6 y7 y8 y9 y10)) ∧ (∀ y0 y1 y2 y3 y4 y5 y6 y7 y8 y9 y10 y11 y12, LeO (impl_Unpack.j3 k y0 y1 y2 y3 y4 y5 y6 y7 y8 y9 y10 y11 y12) (impl_Unpack.j3 (k + 1) y0 y1 y2 y3 y4 y5 y6 y7 y8 y9 y10 y11 y12)) ∧ (∀ y0 y1 y2 y3 y4 y5 y6 y7 y8 y9 y10 y11 y12, LeO (impl_Unpack.j4 k y0 y1 y2 y3 y4 y5 y6 y7 y8 y9 y10 y11 y12) (impl_Unpack.j4 (k + 1) y0 y1 y2 y3 y4 y5 y6 y7 y8 y9 y10 y11 y12))
 | 0 => ⟨fun _ r h => by simp [impl_Unpack.j0] at h, fun _ _ r h => by simp [impl_Unpack.j1] at h, fun _ _ _ _ _ _ _ _ _ _ _ r h => by simp [impl_Unpack.j2] at h, fun _ _ _ _ _ _ _ _ _ _ _ _ _ r h => by simp [impl_Unpack.j3] at h, fun _ _ _ _ _ _ _ _ _ _ _ _ _ r h => by simp [impl_Unpack.j4] at h⟩
 | k + 1 => by
  obtain ⟨ih0, ih1, ih2, ih3, ih4⟩ := impl_Unpack.mono_l k
  refine ⟨?_, ?_, ?_, ?_, ?_⟩
  ·intro y0
   unfold impl_Unpack.j0
   repeat' first
   | (with_reducible exact ih0 _)
   | (with_reducible exact ih1 _ _)
   | (with_reducible exact ih2 _ _ _ _ _ _ _ _ _ _ _)
   | (with_reducible exact ih3 _ _ _ _ _ _ _ _ _ _ _ _ _)
   | (with_reducible exact ih4 _ _ _ _ _ _ _ _ _ _ _ _ _)
   | (with_reducible exact impl_Check8.mono _ _)
   | (with_reducible exact impl_wire_num.mono _ _ _ _)
   | (with_reducible exact LeO.refl _)
   | (with_reducible exact LeO.none _)
   | (with_reducible refine LeO.ite ?_ ?_)
   | (with_reducible refine LeO.bind ?_ (fun _ => ?_))
   | exact ih0 _
   | exact ih1 _ _
   | exact ih2 _ _ _ _ _ _ _ _ _ _ _
   | exact ih3 _ _ _ _ _ _ _ _ _ _ _ _ _
   | exact ih4 _ _ _ _ _ _ _ _ _ _ _ _ _
   | exact impl_Check8.mono _ _
   | exact impl_wire_num.mono _ _ _ _
   | exact LeO.none _
   | refine LeO.ite ?_ ?_
   | refine LeO.bind ?_ (fun _ => ?_)
  ·intro y0 y1
   unfold impl_Unpack.j1
   repeat' first
   | (with_reducible exact ih0 _)
   | (with_reducible exact ih1 _ _)
   | (with_reducible exact ih2 _ _ _ _ _ _ _ _ _ _ _)
   | (with_reducible exact ih3 _ _ _ _ _ _ _ _ _ _ _ _ _)
   | (with_reducible exact ih4 _ _ _ _ _ _ _ _ _ _ _ _ _)
   | (with_reducible exact impl_Check8.mono _ _)
   | (with_reducible exact impl_wire_num.mono _ _ _ _)
   | (with_reducible exact LeO.refl _)
   | (with_reducible exact LeO.none _)
   | (with_reducible refine LeO.ite ?_ ?_)
   | (with_reducible refine LeO.bind ?_ (fun _ => ?_))
   | exact ih0 _
   | exact ih1 _ _
   | exact ih2 _ _ _ _ _ _ _ _ _ _ _
   | exact ih3 _ _ _ _ _ _ _ _ _ _ _ _ _
   | exact ih4 _ _ _ _ _ _ _ _ _ _ _ _ _
   | exact impl_Check8.mono _ _
   | exact impl_wire_num.mono _ _ _ _
   | exact LeO.none _
   | refine LeO.ite ?_ ?_
   | refine LeO.bind ?_ (fun _ => ?_)
  ·intro y0 y1 y2 y3 y4 y5 y6 y7 y8 y9 y10
   unfold impl_Unpack.j2
   repeat' first
   | (with_reducible exact ih0 _)
   | (with_reducible exact ih1 _ _)
   | (with_reducible exact ih2 _ _ _ _ _ _ _ _ _ _ _)
   | (with_reducible exact ih3 _ _ _ _ _ _ _ _ _ _ _ _ _)
   | (with_reducible exact ih4 _ _ _ _ _ _ _ _ _ _ _ _ _)
   | (with_reducible exact impl_Check8.mono _ _)
   | (with_reducible exact impl_wire_num.mono _ _ _ _)
   | (with_reducible exact LeO.refl _)
   | (with_reducible exact LeO.none _)
   | (with_reducible refine LeO.ite ?_ ?_)
   | (with_reducible refine LeO.bind ?_ (fun _ => ?_))
   | exact ih0 _
   | exact ih1 _ _
   | exact ih2 _ _ _ _ _ _ _ _ _ _ _
   | exact ih3 _ _ _ _ _ _ _ _ _ _ _ _ _
   | exact ih4 _ _ _ _ _ _ _ _ _ _ _ _ _
   | exact impl_Check8.mono _ _
   | exact impl_wire_num.mono _ _ _ _
   | exact LeO.none _
   | refine LeO.ite ?_ ?_
   | refine LeO.bind ?_ (fun _ => ?_)
  ·intro y0 y1 y2 y3 y4 y5 y6 y7 y8 y9 y10 y11 y12
   unfold impl_Unpack.j3
   repeat' first
   | (with_reducible exact ih0 _)
   | (with_reducible exact ih1 _ _)
   | (with_reducible exact ih2 _ _ _ _ _ _ _ _ _ _ _)
   | (with_reducible exact ih3 _ _ _ _ _ _ _ _ _ _ _ _ _)
   | (with_reducible exact ih4 _ _ _ _ _ _ _ _ _ _ _ _ _)
   | (with_reducible exact impl_Check8.mono _ _)
   | (with_reducible exact impl_wire_num.mono _ _ _ _)
   | (with_reducible exact LeO.refl _)
   | (with_reducible exact LeO.none _)
   | (with_reducible refine LeO.ite ?_ ?_)
   | (with_reducible refine LeO.bind ?_ (fun _ => ?_))
   | exact ih0 _
   | exact ih1 _ _
   | exact ih2 _ _ _ _ _ _ _ _ _ _ _
   | exact ih3 _ _ _ _ _ _ _ _ _ _ _ _ _
   | exact ih4 _ _ _ _ _ _ _ _ _ _ _ _ _
   | exact impl_Check8.mono _ _
   | exact impl_wire_num.mono _ _ _ _
   | exact LeO.none _
   | refine LeO.ite ?_ ?_
   | refine LeO.bind ?_ (fun _ => ?_)
  ·intro y0 y1 y2 y3 y4 y5 y6 y7 y8 y9 y10 y11 y12
   unfold impl_Unpack.j4
   repeat' first
   | (with_reducible exact ih0 _)
   | (with_reducible exact ih1 _ _)
   | (with_reducible exact ih2 _ _ _ _ _ _ _ _ _ _ _)
   | (with_reducible exact ih3 _ _ _ _ _ _ _ _ _ _ _ _ _)
   | (with_reducible exact ih4 _ _ _ _ _ _ _ _ _ _ _ _ _)
   | (with_reducible exact impl_Check8.mono _ _)
   | (with_reducible exact impl_wire_num.mono _ _ _ _)
   | (with_reducible exact LeO.refl _)
   | (with_reducible exact LeO.none _)
   | (with_reducible refine LeO.ite ?_ ?_)
   | (with_reducible refine LeO.bind ?_ (fun _ => ?_))
   | exact ih0 _
   | exact ih1 _ _
   | exact ih2 _ _ _ _ _ _ _ _ _ _ _
   | exact ih3 _ _ _ _ _ _ _ _ _ _ _ _ _
   | exact ih4 _ _ _ _ _ _ _ _ _ _ _ _ _
   | exact impl_Check8.mono _ _
   | exact impl_wire_num.mono _ _ _ _
   | exact LeO.none _
   | refine LeO.ite ?_ ?_
   | refine LeO.bind ?_ (fun _ => ?_)
theorem impl_Unpack.mono : ∀ a0 k, LeO (impl_Unpack.f k a0) (impl_Unpack.f (k + 1) a0) := by
 intro a0 k
 obtain ⟨ih0, ih1, ih2, ih3, ih4⟩ := impl_Unpack.mono_l k
 unfold impl_Unpack.f
 repeat' first
   | (with_reducible exact ih0 _)
   | (with_reducible exact ih1 _ _)
   | (with_reducible exact ih2 _ _ _ _ _ _ _ _ _ _ _)
   | (with_reducible exact ih3 _ _ _ _ _ _ _ _ _ _ _ _ _)
   | (with_reducible exact ih4 _ _ _ _ _ _ _ _ _ _ _ _ _)
   | (with_reducible exact impl_Check8.mono _ _)
   | (with_reducible exact impl_wire_num.mono _ _ _ _)
   | (with_reducible exact LeO.refl _)
   | (with_reducible exact LeO.none _)
   | (with_reducible refine LeO.ite ?_ ?_)
   | (with_reducible refine LeO.bind ?_ (fun _ => ?_))
   | exact ih0 _
   | exact ih1 _ _
   | exact ih2 _ _ _ _ _ _ _ _ _ _ _
   | exact ih3 _ _ _ _ _ _ _ _ _ _ _ _ _
   | exact ih4 _ _ _ _ _ _ _ _ _ _ _ _ _
   | exact impl_Check8.mono _ _
   | exact impl_wire_num.mono _ _ _ _
   | exact LeO.none _
   | refine LeO.ite ?_ ?_
   | refine LeO.bind ?_ (fun _ => ?_)
theorem impl_Unpack.calls (k : Nat) (A0 : Option Addr) (c0 : Nat) (l0 : List Int) (r1 : Int) (r2 : Int) (r3 : Int) (r4 : Int) (r5 : Int) (r6 : Int) (r7 : Int) (r8 : ByteArray) (r9 : Int) (w : World) (hr0 : Kd.C (Kd.int .u8) w A0 l0.length l0) (hc0 : l0.length ≤ c0) (h : impl_Unpack.f k l0 = some (r1, r2, r3, r4, r5, r6, r7, r8, r9)) :
  Calls Try.prog 19 #[.slice A0 l0.length c0] w fun e w' => e = .returned (.tuple #[.agg #[.int .i64 r1, .int .i64 r2, .int .i64 r3, .int .i64 r4, .int .i64 r5, .int .i64 r6, .int .i64 r7, .string r8], .int .i64 r9]) ∧ Below w.heap.size w w' := by
 have hu32 := Try.underlying32
 have hu66 := Try.underlying66
 have hu30 := Try.underlying30
 have HR0 := zM hr0
 have HC0 := zM hc0
 clear hr0 hc0
 have HB := zM (Below.refl w.heap.size w)
 have H : (if (l0.length : Int) < 2 then (some (0, 0, 0, 0, 0, 0, 0, (⟨#[]⟩ : ByteArray), 1)) else (impl_Unpack.j0 k l0)) = some (r1, r2, r3, r4, r5, r6, r7, r8, r9) := h
 clear h
 have HC2 := zM H
 clear H
 go_enter Try.func19, Try.ntmps19
 iterate 2 ((try go_quiet (fail)); (go_upto_if 12 with (first | ((with_reducible refine gate_dst (N := 2) rfl ?_); refine box_event ?hg (N := 2) ?hd (cs := #[.int .i64 0, .int .i64 0, .int .i64 0, .int .i64 0, .int .i64 0, .int .i64 0, .int .i64 0, .string (⟨#[]⟩ : ByteArray)]) (t := 32) ?hr ?_; (case hd => rfl); (case hg => rfl); (case hr => first | (go_simp; done) | (go_simp; rfl)); intro gb218 hg w3 hbox hb; have n0_ := zM (bG (by repeat (first | (with_reducible first | exact HB.out | apply bE | apply bD | apply bF) | exact HB.out)) hb); have n1_ := zM (hbox); have n2_ := zM ((by rw [hg]; exact (below_size (by repeat (first | (with_reducible first | exact HB.out | apply bE | apply bD | apply bF) | exact HB.out))) : w.heap.size ≤ gb218)); have n3_ := zM ((by rw [hg]; exact (below_size (by repeat (first | (with_reducible first | exact HB.out | apply bE | apply bD | apply bF) | exact HB.out))) : w.heap.size ≤ gb218)); clear HB; have HB := n0_; have BK218 := n1_; have GW218 := n2_; have GE218 := n3_; clear n0_ n1_ n2_ n3_; clear hb hbox hg))))
 (try simp only [Act.put, zS, z0, z1])
 go_cut [] (fun wc => ∃ (kq : Nat) (x219000_1 : Int) (x219001_1 : Int) (x219002_1 : Int) (x219003_1 : Int) (x219004_1 : Int) (x219005_1 : Int) (x219006_1 : Int) (x219007_1 : ByteArray), Aside0 (impl_Unpack.j0 kq l0 = some (r1, r2, r3, r4, r5, r6, r7, r8, r9)) ∧ Aside0 (kq ≤ k) ∧ Aside0 (wc.heap[gb218]? = some (.cells #[.int .i64 x219000_1, .int .i64 x219001_1, .int .i64 x219002_1, .int .i64 x219003_1, .int .i64 x219004_1, .int .i64 x219005_1, .int .i64 x219006_1, .string x219007_1] 32 (0, 0))) ∧ Aside0 (Below w.heap.size w wc))
 case first =>
  have H := HC2.out
  clear HC2
  by_cases c4 : (l0.length : Int) < 2
  ·rw [if_pos c4] at H
   have c4b0 : decide ((l0.length : Int) < 2) = true := decide_eq_true c4
   have c4b1 : decide (l0.length < 2) = true := decide_eq_true (by omega)
   clear c4
   (first | rw [c4b0] | (simp only [i64_w, i32_w]; rw [c4b0]) | skip)
   simp only [zI, zJ] at H
   obtain ⟨rfl, rfl, rfl, rfl, rfl, rfl, rfl, rfl, rfl⟩ := H
   have hcz5_0 : w3.cell? ⟨gb218, 0, none⟩ = some (.int .i64 0) := (blk_cell BK218.out 0).trans rfl
   have hcz5_1 : w3.cell? ⟨gb218, 1, none⟩ = some (.int .i64 0) := (blk_cell BK218.out 1).trans rfl
   have hcz5_2 : w3.cell? ⟨gb218, 2, none⟩ = some (.int .i64 0) := (blk_cell BK218.out 2).trans rfl
   have hcz5_3 : w3.cell? ⟨gb218, 3, none⟩ = some (.int .i64 0) := (blk_cell BK218.out 3).trans rfl
   have hcz5_4 : w3.cell? ⟨gb218, 4, none⟩ = some (.int .i64 0) := (blk_cell BK218.out 4).trans rfl
   have hcz5_5 : w3.cell? ⟨gb218, 5, none⟩ = some (.int .i64 0) := (blk_cell BK218.out 5).trans rfl
   have hcz5_6 : w3.cell? ⟨gb218, 6, none⟩ = some (.int .i64 0) := (blk_cell BK218.out 6).trans rfl
   have hcz5_7 : w3.cell? ⟨gb218, 7, none⟩ = some (.string (⟨#[]⟩ : ByteArray)) := (blk_cell BK218.out 7).trans rfl
   have hfz5_0 := blk_frozen BK218.out 0
   have hfz5_1 := blk_frozen BK218.out 1
   have hfz5_2 := blk_frozen BK218.out 2
   have hfz5_3 := blk_frozen BK218.out 3
   have hfz5_4 := blk_frozen BK218.out 4
   have hfz5_5 := blk_frozen BK218.out 5
   have hfz5_6 := blk_frozen BK218.out 6
   have hfz5_7 := blk_frozen BK218.out 7
   go_wp2
   repeat (go_quiet (fail); try go_wp2)
   refine bodyPost_ret (results_ct rfl _ _ gb218 32 #[.int .i64 0, .int .i64 0, .int .i64 0, .int .i64 0, .int .i64 0, .int .i64 0, .int .i64 0, .string (⟨#[]⟩ : ByteArray)] (0, 0) _ rfl (by (with_reducible repeat (first | refine bA ?_ _ | refine bB ?_ | refine bC ?_ _)); refine bH (cs := #[.int .i64 0, .int .i64 0, .int .i64 0, .int .i64 0, .int .i64 0, .int .i64 0, .int .i64 0, .string (⟨#[]⟩ : ByteArray)]) ?_ 7 _ rfl; (with_reducible repeat (first | refine bA ?_ _ | refine bB ?_ | refine bC ?_ _)); refine bH (cs := #[.int .i64 0, .int .i64 0, .int .i64 0, .int .i64 0, .int .i64 0, .int .i64 0, .int .i64 0, .string (⟨#[]⟩ : ByteArray)]) ?_ 6 _ rfl; (with_reducible repeat (first | refine bA ?_ _ | refine bB ?_ | refine bC ?_ _)); refine bH (cs := #[.int .i64 0, .int .i64 0, .int .i64 0, .int .i64 0, .int .i64 0, .int .i64 0, .int .i64 0, .string (⟨#[]⟩ : ByteArray)]) ?_ 5 _ rfl; (with_reducible repeat (first | refine bA ?_ _ | refine bB ?_ | refine bC ?_ _)); refine bH (cs := #[.int .i64 0, .int .i64 0, .int .i64 0, .int .i64 0, .int .i64 0, .int .i64 0, .int .i64 0, .string (⟨#[]⟩ : ByteArray)]) ?_ 4 _ rfl; (with_reducible repeat (first | refine bA ?_ _ | refine bB ?_ | refine bC ?_ _)); refine bH (cs := #[.int .i64 0, .int .i64 0, .int .i64 0, .int .i64 0, .int .i64 0, .int .i64 0, .int .i64 0, .string (⟨#[]⟩ : ByteArray)]) ?_ 3 _ rfl; (with_reducible repeat (first | refine bA ?_ _ | refine bB ?_ | refine bC ?_ _)); refine bH (cs := #[.int .i64 0, .int .i64 0, .int .i64 0, .int .i64 0, .int .i64 0, .int .i64 0, .int .i64 0, .string (⟨#[]⟩ : ByteArray)]) ?_ 2 _ rfl; (with_reducible repeat (first | refine bA ?_ _ | refine bB ?_ | refine bC ?_ _)); refine bH (cs := #[.int .i64 0, .int .i64 0, .int .i64 0, .int .i64 0, .int .i64 0, .int .i64 0, .int .i64 0, .string (⟨#[]⟩ : ByteArray)]) ?_ 1 _ rfl; (with_reducible repeat (first | refine bA ?_ _ | refine bB ?_ | refine bC ?_ _)); refine bH (cs := #[.int .i64 0, .int .i64 0, .int .i64 0, .int .i64 0, .int .i64 0, .int .i64 0, .int .i64 0, .string (⟨#[]⟩ : ByteArray)]) ?_ 0 _ rfl; (with_reducible repeat (first | refine bA ?_ _ | refine bB ?_ | refine bC ?_ _)); exact BK218.out) Try.underlying32 rfl (by kernel_rfl)) rfl ?_
   exact ⟨by first | rfl | (simp [*, errW_none, errW_some] <;> rfl), by repeat (first | (with_reducible first | exact HB.out | apply bE | apply bD | apply bF | refine below_set ?_ GE218.out) | exact HB.out)⟩
  ·rw [if_neg c4] at H
   have c4b0 : decide ((l0.length : Int) < 2) = false := decide_eq_false c4
   have c4b1 : decide (l0.length < 2) = false := decide_eq_false (by omega)
   clear c4
   (first | rw [c4b0] | (simp only [i64_w, i32_w]; rw [c4b0]) | skip)
   have H' := zM H
   clear H
   go_wp2
   repeat (go_quiet (fail); try go_wp2)
   go_meet
   case rel => exact ⟨_, (0), (0), (0), (0), (0), (0), (0), ((⟨#[]⟩ : ByteArray)), H', ⟨by first | omega | exact Nat.le_refl _⟩, ⟨by (with_reducible repeat (first | refine bA ?_ _ | refine bB ?_ | refine bC ?_ _)); exact BK218.out⟩, ⟨by repeat (first | (with_reducible first | exact HB.out | apply bE | apply bD | apply bF | refine below_set ?_ GE218.out) | exact HB.out)⟩⟩
 case rest =>
  clear HC2
  try clear c1
  try clear p2
  try clear c4
  try clear c4b0
  try clear c4b1
  try clear hcz5_0
  try clear hcz5_1
  try clear hcz5_2
  try clear hcz5_3
  try clear hcz5_4
  try clear hcz5_5
  try clear hcz5_6
  try clear hcz5_7
  try clear hfz5_0
  try clear hfz5_1
  try clear hfz5_2
  try clear hfz5_3
  try clear hfz5_4
  try clear hfz5_5
  try clear hfz5_6
  try clear hfz5_7
  obtain ⟨kq, x219000_1, x219001_1, x219002_1, x219003_1, x219004_1, x219005_1, x219006_1, x219007_1, HA, HJ1, BK218, HB⟩ := hcut
  cases kq with
  | zero => exact absurd HA.out (by simp [impl_Unpack.j0])
  | succ kj1 =>
   have H := HA.out
   clear HA
   simp only [impl_Unpack.j0] at H
   obtain ⟨ji6, hji6⟩ : ∃ j_ : Int, (wrap64 ((l0.length : Int) - 1)) = j_ := ⟨_, rfl⟩
   replace H : (if 0 ≤ (ji6) then (if (ji6) < (l0.length : Int) then (if (ji6) ≤ (l0.length : Int) then ((impl_Check8.f kj1 (l0.take ((ji6) : Int).toNat)).bind fun t221 => (if (wrap64 (rd l0 (ji6))) = t221 then (impl_Unpack.j1 kj1 l0 ji6) else (some (0, 0, 0, 0, 0, 0, 0, (⟨#[]⟩ : ByteArray), 2)))) else (none)) else (none)) else (none)) = some (r1, r2, r3, r4, r5, r6, r7, r8, r9) := by first | (rw [hji6] at H; exact H) | (simp only [hji6] at H ⊢; exact H)
   have hji6w : (IntKind.i64.wrap ((l0.length : Int) - 1)) = ji6 := (i64_w _).trans hji6
   by_cases c7 : 0 ≤ (ji6)
   ·rw [if_pos c7] at H
    have c7b0 : decide (0 ≤ (ji6)) = true := decide_eq_true c7
    clear c7
    by_cases c8 : (ji6) < (l0.length : Int)
    ·rw [if_pos c8] at H
     have c8b0 : decide ((ji6) < (l0.length : Int)) = true := decide_eq_true c8
     clear c8
     have c9b0 := eq_true (of_decide_eq_true (by first | (with_reducible assumption) | assumption) : 0 ≤ (ji6))
     by_cases c10 : (ji6) ≤ (l0.length : Int)
     ·rw [if_pos c10] at H
      have c10b0 := eq_true c10
      have c10b1 : decide ((ji6) ≤ (l0.length : Int)) = true := decide_eq_true c10
      clear c10
      replace H := zO H
      obtain ⟨t221, A110, H⟩ := H
      replace H : (if (wrap64 (rd l0 (ji6))) = t221 then (impl_Unpack.j1 kj1 l0 ji6) else (some (0, 0, 0, 0, 0, 0, 0, (⟨#[]⟩ : ByteArray), 2))) = some (r1, r2, r3, r4, r5, r6, r7, r8, r9) := H
      have A11 := zM A110
      clear A110
      have HC12 := zM H
      clear H
      have p219 : 0 ≤ ((ji6) : Int) := of_decide_eq_true (by first | (with_reducible assumption) | assumption)
      have q219 : (ji6) < (l0.length : Int) := of_decide_eq_true (by first | (with_reducible assumption) | assumption)
      obtain ⟨ad219, e219, hx219_0⟩ := Kd.at_int HR0.out (ji6) p219 q219
      cases e219
      replace hx219_0 := (HB.out.cell (World.block_lt_of_cell? w _ hx219_0)).trans hx219_0
      replace p219 := eq_true p219
      replace q219 := eq_true q219
      (try (have q219e := of_eq_true q219; rw [List.length_take] at q219e; replace q219e := Int.lt_of_lt_of_le q219e (Int.ofNat_le.mpr (Nat.min_le_left _ _)); rw [Int.ofNat_toNat] at q219e; have q219g := eq_false (Int.not_le.mpr q219e); replace q219e := eq_true q219e))
      obtain ⟨i013, hi013, _, hsz13, _⟩ := info_parts info5
      obtain ⟨hcut13, hA13, hC13⟩ := print_take_of (P := Try.prog) (Value.int .u8) 0 27 5 .i64 Try.underlying27 hi013 hsz13 (some ad219) c0 l0 (ji6) (of_decide_eq_true (by first | (with_reducible assumption) | assumption)) (of_decide_eq_true (by first | (with_reducible assumption) | assumption)) HC0.out
      have HZ_ji6_l0 : Aside0 (((ji6) : Int) ≤ (l0.length : Int)) := ⟨of_decide_eq_true (by first | (with_reducible assumption) | assumption)⟩
      have HR220 := zM (Kd.C_of_reads (h1 := fun _ => rfl) (hA13 _ (Kd.reads_of_C HR0.out)))
      have HC220 := zM hC13
      clear hA13 hC13 hi013 hsz13
      iterate 2 ((try go_quiet (first | (go_at_call 46; (try (refine calls_of_args (args' := #[.slice (some ad219) (l0.take ((ji6) : Int).toNat).length c0]) (by first | rfl | (rw [show (l0.take ((ji6) : Int).toNat).length = (ji6).toNat from (by rw [List.length_take]; have h_ : ((ji6) : Int) ≤ (l0.length : Int) := (by first | exact HZ_ji6_l0.out | exact of_decide_eq_true (by first | (with_reducible assumption) | assumption)); omega)] <;> rfl) | (simp only [hji6]; rfl) | (simp only [List.length_drop, List.length_take]; rfl)) ?_)); (with_reducible refine (impl_Check8.calls kj1 _ _ (l0.take ((ji6) : Int).toNat) t221 _ ?side1 ?side2 A11.out).mono ?_); (case side1 => repeat (first | exact (Kd.C_below HR220.out HB.out) | (with_reducible refine Kd.C_alloc ?_ _) | (with_reducible refine Kd.C_drewN ?_ _) | (with_reducible refine Kd.C_drew ?_))); (case side2 => exact HC220.out); rintro e w' ⟨rfl, ⟨nd, rfl⟩⟩; (try first | exact ⟨rfl, _, World.drewN_drewN _ _ _⟩ | exact ⟨rfl, _, Eq.trans (World.drewN_drewN _ _ _) (congrArg (World.drewN _) (Nat.add_assoc _ _ _))⟩)))); (go_upto_if 26 with (first | (go_at_call 46; (try (refine calls_of_args (args' := #[.slice (some ad219) (l0.take ((ji6) : Int).toNat).length c0]) (by first | rfl | (rw [show (l0.take ((ji6) : Int).toNat).length = (ji6).toNat from (by rw [List.length_take]; have h_ : ((ji6) : Int) ≤ (l0.length : Int) := (by first | exact HZ_ji6_l0.out | exact of_decide_eq_true (by first | (with_reducible assumption) | assumption)); omega)] <;> rfl) | (simp only [hji6]; rfl) | (simp only [List.length_drop, List.length_take]; rfl)) ?_)); (with_reducible refine (impl_Check8.calls kj1 _ _ (l0.take ((ji6) : Int).toNat) t221 _ ?side1 ?side2 A11.out).mono ?_); (case side1 => repeat (first | exact (Kd.C_below HR220.out HB.out) | (with_reducible refine Kd.C_alloc ?_ _) | (with_reducible refine Kd.C_drewN ?_ _) | (with_reducible refine Kd.C_drew ?_))); (case side2 => exact HC220.out); rintro e w' ⟨rfl, ⟨nd, rfl⟩⟩; (try first | exact ⟨rfl, _, World.drewN_drewN _ _ _⟩ | exact ⟨rfl, _, Eq.trans (World.drewN_drewN _ _ _) (congrArg (World.drewN _) (Nat.add_assoc _ _ _))⟩)))))
      (try simp only [Act.put, zS, z0, z1])
      go_cut [] (fun wc => ∃ (kq : Nat) (x219000_11 : Int) (x219001_11 : Int) (x219002_11 : Int) (x219003_11 : Int) (x219004_11 : Int) (x219005_11 : Int) (x219006_11 : Int) (x219007_11 : ByteArray), Aside0 (impl_Unpack.j1 kq l0 ji6 = some (r1, r2, r3, r4, r5, r6, r7, r8, r9)) ∧ Aside0 (kq ≤ kj1) ∧ Aside0 (wc.heap[gb218]? = some (.cells #[.int .i64 x219000_11, .int .i64 x219001_11, .int .i64 x219002_11, .int .i64 x219003_11, .int .i64 x219004_11, .int .i64 x219005_11, .int .i64 x219006_11, .string x219007_11] 32 (0, 0))) ∧ Aside0 (Below w.heap.size w wc))
      case first =>
       have H := HC12.out
       clear HC12
       by_cases c14 : (wrap64 (rd l0 (ji6))) = t221
       ·rw [if_pos c14] at H
        have c14b0 : ((wrap64 (rd l0 (ji6))) == t221) = true := beq_iff_eq.mpr c14
        have c14b1 : ((wrap64 (rd l0 (ji6))) != t221) = false := bne_eq_false_iff_eq.mpr c14
        clear c14
        (first | rw [c14b0] | (simp only [i64_w, i32_w]; rw [c14b0]) | skip)
        have H' := zM H
        clear H
        go_wp2
        repeat (go_quiet (fail); try go_wp2)
        go_meet
        case rel => exact ⟨_, (x219000_1), (x219001_1), (x219002_1), (x219003_1), (x219004_1), (x219005_1), (x219006_1), (x219007_1), H', ⟨by have := HJ1.out; first | omega | exact Nat.le_refl _⟩, ⟨by (with_reducible repeat (first | refine bA ?_ _ | refine bB ?_ | refine bC ?_ _)); exact BK218.out⟩, ⟨by repeat (first | (with_reducible first | exact HB.out | apply bE | apply bD | apply bF | refine below_set ?_ GE218.out) | exact HB.out)⟩⟩
       ·rw [if_neg c14] at H
        have c14b0 : ((wrap64 (rd l0 (ji6))) == t221) = false := beq_eq_false_iff_ne.mpr c14
        have c14b1 : ((wrap64 (rd l0 (ji6))) != t221) = true := bne_iff_ne.mpr c14
        (first | rw [c14b0] | (simp only [i64_w, i32_w]; rw [c14b0]) | skip)
        simp only [zI, zJ] at H
        obtain ⟨rfl, rfl, rfl, rfl, rfl, rfl, rfl, rfl, rfl⟩ := H
        have hcz15_0 : wc.cell? ⟨gb218, 0, none⟩ = some (.int .i64 x219000_1) := (blk_cell BK218.out 0).trans rfl
        have hcz15_1 : wc.cell? ⟨gb218, 1, none⟩ = some (.int .i64 x219001_1) := (blk_cell BK218.out 1).trans rfl
        have hcz15_2 : wc.cell? ⟨gb218, 2, none⟩ = some (.int .i64 x219002_1) := (blk_cell BK218.out 2).trans rfl
        have hcz15_3 : wc.cell? ⟨gb218, 3, none⟩ = some (.int .i64 x219003_1) := (blk_cell BK218.out 3).trans rfl
        have hcz15_4 : wc.cell? ⟨gb218, 4, none⟩ = some (.int .i64 x219004_1) := (blk_cell BK218.out 4).trans rfl
        have hcz15_5 : wc.cell? ⟨gb218, 5, none⟩ = some (.int .i64 x219005_1) := (blk_cell BK218.out 5).trans rfl
        have hcz15_6 : wc.cell? ⟨gb218, 6, none⟩ = some (.int .i64 x219006_1) := (blk_cell BK218.out 6).trans rfl
        have hcz15_7 : wc.cell? ⟨gb218, 7, none⟩ = some (.string x219007_1) := (blk_cell BK218.out 7).trans rfl
        have hfz15_0 := blk_frozen BK218.out 0
        have hfz15_1 := blk_frozen BK218.out 1
        have hfz15_2 := blk_frozen BK218.out 2
        have hfz15_3 := blk_frozen BK218.out 3
        have hfz15_4 := blk_frozen BK218.out 4
        have hfz15_5 := blk_frozen BK218.out 5
        have hfz15_6 := blk_frozen BK218.out 6
        have hfz15_7 := blk_frozen BK218.out 7
        go_wp2
        repeat (go_quiet (fail); try go_wp2)
        refine bodyPost_ret (results_ct rfl _ _ gb218 32 #[.int .i64 0, .int .i64 0, .int .i64 0, .int .i64 0, .int .i64 0, .int .i64 0, .int .i64 0, .string (⟨#[]⟩ : ByteArray)] (0, 0) _ rfl (by (with_reducible repeat (first | refine bA ?_ _ | refine bB ?_ | refine bC ?_ _)); refine bH (cs := #[.int .i64 0, .int .i64 0, .int .i64 0, .int .i64 0, .int .i64 0, .int .i64 0, .int .i64 0, .string x219007_1]) ?_ 7 _ rfl; (with_reducible repeat (first | refine bA ?_ _ | refine bB ?_ | refine bC ?_ _)); refine bH (cs := #[.int .i64 0, .int .i64 0, .int .i64 0, .int .i64 0, .int .i64 0, .int .i64 0, .int .i64 x219006_1, .string x219007_1]) ?_ 6 _ rfl; (with_reducible repeat (first | refine bA ?_ _ | refine bB ?_ | refine bC ?_ _)); refine bH (cs := #[.int .i64 0, .int .i64 0, .int .i64 0, .int .i64 0, .int .i64 0, .int .i64 x219005_1, .int .i64 x219006_1, .string x219007_1]) ?_ 5 _ rfl; (with_reducible repeat (first | refine bA ?_ _ | refine bB ?_ | refine bC ?_ _)); refine bH (cs := #[.int .i64 0, .int .i64 0, .int .i64 0, .int .i64 0, .int .i64 x219004_1, .int .i64 x219005_1, .int .i64 x219006_1, .string x219007_1]) ?_ 4 _ rfl; (with_reducible repeat (first | refine bA ?_ _ | refine bB ?_ | refine bC ?_ _)); refine bH (cs := #[.int .i64 0, .int .i64 0, .int .i64 0, .int .i64 x219003_1, .int .i64 x219004_1, .int .i64 x219005_1, .int .i64 x219006_1, .string x219007_1]) ?_ 3 _ rfl; (with_reducible repeat (first | refine bA ?_ _ | refine bB ?_ | refine bC ?_ _)); refine bH (cs := #[.int .i64 0, .int .i64 0, .int .i64 x219002_1, .int .i64 x219003_1, .int .i64 x219004_1, .int .i64 x219005_1, .int .i64 x219006_1, .string x219007_1]) ?_ 2 _ rfl; (with_reducible repeat (first | refine bA ?_ _ | refine bB ?_ | refine bC ?_ _)); refine bH (cs := #[.int .i64 0, .int .i64 x219001_1, .int .i64 x219002_1, .int .i64 x219003_1, .int .i64 x219004_1, .int .i64 x219005_1, .int .i64 x219006_1, .string x219007_1]) ?_ 1 _ rfl; (with_reducible repeat (first | refine bA ?_ _ | refine bB ?_ | refine bC ?_ _)); refine bH (cs := #[.int .i64 x219000_1, .int .i64 x219001_1, .int .i64 x219002_1, .int .i64 x219003_1, .int .i64 x219004_1, .int .i64 x219005_1, .int .i64 x219006_1, .string x219007_1]) ?_ 0 _ rfl; (with_reducible repeat (first | refine bA ?_ _ | refine bB ?_ | refine bC ?_ _)); exact BK218.out) Try.underlying32 rfl (by kernel_rfl)) rfl ?_
        exact ⟨by first | rfl | (simp only [← hji6]; first | rfl | (simp [errW_none, errW_some] <;> rfl)) | (simp [*, errW_none, errW_some] <;> rfl), by repeat (first | (with_reducible first | exact HB.out | apply bE | apply bD | apply bF | refine below_set ?_ GE218.out) | exact HB.out)⟩
      case rest =>
       clear HC12
       try clear c1
       try clear p2
       try clear q2
       try clear hx2
       try clear c4
       try clear c4b0
       try clear c4b1
       try clear p6
       try clear c7
       try clear c7b0
       try clear c8
       try clear c8b0
       try clear c9
       try clear c9b0
       try clear c10
       try clear c10b0
       try clear c10b1
       try clear c14
       try clear c14b0
       try clear c14b1
       try clear hcz15_0
       try clear hcz15_1
       try clear hcz15_2
       try clear hcz15_3
       try clear hcz15_4
       try clear hcz15_5
       try clear hcz15_6
       try clear hcz15_7
       try clear hcz5_0
       try clear hcz5_1
       try clear hcz5_2
       try clear hcz5_3
       try clear hcz5_4
       try clear hcz5_5
       try clear hcz5_6
       try clear hcz5_7
       try clear hfz15_0
       try clear hfz15_1
       try clear hfz15_2
       try clear hfz15_3
       try clear hfz15_4
       try clear hfz15_5
       try clear hfz15_6
       try clear hfz15_7
       try clear hfz5_0
       try clear hfz5_1
       try clear hfz5_2
       try clear hfz5_3
       try clear hfz5_4
       try clear hfz5_5
       try clear hfz5_6
       try clear hfz5_7
       try clear hx219_0
       try clear p2
       try clear p219
       try clear q219
       obtain ⟨kq, x219000_11, x219001_11, x219002_11, x219003_11, x219004_11, x219005_11, x219006_11, x219007_11, HA, HJ11, BK218, HB⟩ := hcut
       cases kq with
       | zero => exact absurd HA.out (by simp [impl_Unpack.j1])
       | succ kj11 =>
        have H := HA.out
        clear HA
        simp only [impl_Unpack.j1] at H
        by_cases c16 : 0 < (l0.length : Int)
        ·rw [if_pos c16] at H
         have c16b0 : decide (0 < (l0.length : Int)) = true := decide_eq_true c16
         have c16b1 : decide (0 < l0.length) = true := decide_eq_true (by omega)
         clear c16
         replace H := zO H
         obtain ⟨t224, A170, H⟩ := H
         replace H : (if t224 = true then (impl_Unpack.j2 kj11 l0 ji6 false (wrap64 (rd l0 0)) 0 0 0 0 0 0 (⟨#[]⟩ : ByteArray)) else (some (0, 0, 0, 0, 0, 0, 0, (⟨#[]⟩ : ByteArray), 3))) = some (r1, r2, r3, r4, r5, r6, r7, r8, r9) := H
         have A17 := zM A170
         clear A170
         have HC18 := zM H
         clear H
         have p222 : 0 ≤ (0 : Int) := (by omega)
         have q222 : 0 < (l0.length : Int) := of_decide_eq_true (by first | (with_reducible assumption) | assumption)
         obtain ⟨ad222, e222, hx222_0⟩ := Kd.at_int HR0.out 0 p222 q222
         obtain rfl : ad219 = ad222 := (by injection e222)
         have qi222 : (0 < l0.length) = True := eq_true (by omega)
         (try rw [show ((0 : Int)).toNat = 0 from rfl] at hx222_0)
         (try rw [Addr.add_zero'] at hx222_0)
         replace hx222_0 := (HB.out.cell (World.block_lt_of_cell? w _ hx222_0)).trans hx222_0
         replace p222 := eq_true p222
         replace q222 := eq_true q222
         (try (have q222e := of_eq_true q222; rw [List.length_take] at q222e; replace q222e := Int.lt_of_lt_of_le q222e (Int.ofNat_le.mpr (Nat.min_le_left _ _)); rw [Int.ofNat_toNat] at q222e; have q222g := eq_false (Int.not_le.mpr q222e); replace q222e := eq_true q222e))
         iterate 2 ((try go_quiet (first | (go_at_call 47; (with_reducible refine (impl_in.calls (wrap64 (rd l0 0)) 1 3 t224 _ A17.out).mono ?_); rintro e w' ⟨rfl, ⟨nd, rfl⟩⟩; (try first | exact ⟨rfl, _, World.drewN_drewN _ _ _⟩ | exact ⟨rfl, _, Eq.trans (World.drewN_drewN _ _ _) (congrArg (World.drewN _) (Nat.add_assoc _ _ _))⟩)))); (go_upto_if 36 with (first | ((with_reducible refine gate_dst (N := 5) rfl ?_); refine box_event ?hg (N := 5) ?hd (cs := #[.int .i64 0, .int .i64 0, .int .i64 0, .int .i64 0, .int .i64 0, .int .i64 0, .int .i64 0, .string (⟨#[]⟩ : ByteArray)]) (t := 32) ?hr ?_; (case hd => rfl); (case hg => rfl); (case hr => first | (go_simp; done) | (go_simp; rfl)); intro gb223 hg w19 hbox hb; have n0_ := zM (blk_below (g := gb218) (o := .cells #[.int .i64 x219000_11, .int .i64 x219001_11, .int .i64 x219002_11, .int .i64 x219003_11, .int .i64 x219004_11, .int .i64 x219005_11, .int .i64 x219006_11, .string x219007_11] 32 (0, 0)) (by (with_reducible repeat (first | refine bA ?_ _ | refine bB ?_ | refine bC ?_ _)); exact BK218.out) hb); have n1_ := zM (bG (by repeat (first | (with_reducible first | exact HB.out | apply bE | apply bD | apply bF | refine below_set ?_ GE218.out) | exact HB.out)) hb); have n2_ := zM (hbox); have n3_ := zM ((by rw [hg]; exact (below_size (by repeat (first | (with_reducible first | exact HB.out | apply bE | apply bD | apply bF | refine below_set ?_ GE218.out) | exact HB.out))) : w.heap.size ≤ gb223)); have n4_ := zM ((by rw [hg]; exact (below_size (by repeat (first | (with_reducible first | exact HB.out | apply bE | apply bD | apply bF | refine below_set ?_ GE218.out) | exact HB.out))) : w.heap.size ≤ gb223)); have n5_ := zM ((by rw [hg]; exact Nat.ne_of_lt (blk_lt (g := gb218) (o := .cells #[.int .i64 x219000_11, .int .i64 x219001_11, .int .i64 x219002_11, .int .i64 x219003_11, .int .i64 x219004_11, .int .i64 x219005_11, .int .i64 x219006_11, .string x219007_11] 32 (0, 0)) (by (with_reducible repeat (first | refine bA ?_ _ | refine bB ?_ | refine bC ?_ _)); exact BK218.out)) : gb218 ≠ gb223)); have n6_ := zM ((by rw [hg]; exact Nat.ne_of_gt (blk_lt (g := gb218) (o := .cells #[.int .i64 x219000_11, .int .i64 x219001_11, .int .i64 x219002_11, .int .i64 x219003_11, .int .i64 x219004_11, .int .i64 x219005_11, .int .i64 x219006_11, .string x219007_11] 32 (0, 0)) (by (with_reducible repeat (first | refine bA ?_ _ | refine bB ?_ | refine bC ?_ _)); exact BK218.out)) : gb223 ≠ gb218)); clear BK218; clear HB; have BK218 := n0_; have HB := n1_; have BK223 := n2_; have GW223 := n3_; have GE223 := n4_; have NB218_223 := n5_; have NB223_218 := n6_; clear n0_ n1_ n2_ n3_ n4_ n5_ n6_; clear hb hbox hg; have hnb20 := NB223_218.out; have hnc20 := NB218_223.out; have hcz21_0 : w19.cell? ⟨gb223, 0, none⟩ = some (.int .i64 0) := (blk_cell BK223.out 0).trans rfl; have hcz21_1 : w19.cell? ⟨gb223, 1, none⟩ = some (.int .i64 0) := (blk_cell BK223.out 1).trans rfl; have hcz21_2 : w19.cell? ⟨gb223, 2, none⟩ = some (.int .i64 0) := (blk_cell BK223.out 2).trans rfl; have hcz21_3 : w19.cell? ⟨gb223, 3, none⟩ = some (.int .i64 0) := (blk_cell BK223.out 3).trans rfl; have hcz21_4 : w19.cell? ⟨gb223, 4, none⟩ = some (.int .i64 0) := (blk_cell BK223.out 4).trans rfl; have hcz21_5 : w19.cell? ⟨gb223, 5, none⟩ = some (.int .i64 0) := (blk_cell BK223.out 5).trans rfl; have hcz21_6 : w19.cell? ⟨gb223, 6, none⟩ = some (.int .i64 0) := (blk_cell BK223.out 6).trans rfl; have hcz21_7 : w19.cell? ⟨gb223, 7, none⟩ = some (.string (⟨#[]⟩ : ByteArray)) := (blk_cell BK223.out 7).trans rfl; have hfz21_0 := blk_frozen BK223.out 0; have hfz21_1 := blk_frozen BK223.out 1; have hfz21_2 := blk_frozen BK223.out 2; have hfz21_3 := blk_frozen BK223.out 3; have hfz21_4 := blk_frozen BK223.out 4; have hfz21_5 := blk_frozen BK223.out 5; have hfz21_6 := blk_frozen BK223.out 6; have hfz21_7 := blk_frozen BK223.out 7) | (go_at_call 47; (with_reducible refine (impl_in.calls (wrap64 (rd l0 0)) 1 3 t224 _ A17.out).mono ?_); rintro e w' ⟨rfl, ⟨nd, rfl⟩⟩; (try first | exact ⟨rfl, _, World.drewN_drewN _ _ _⟩ | exact ⟨rfl, _, Eq.trans (World.drewN_drewN _ _ _) (congrArg (World.drewN _) (Nat.add_assoc _ _ _))⟩)))))
         (try simp only [Act.put, zS, z0, z1])
         go_cut [] (fun wc => ∃ (kq : Nat) (x219000_17 : Int) (x219001_17 : Int) (x219002_17 : Int) (x219003_17 : Int) (x219004_17 : Int) (x219005_17 : Int) (x219006_17 : Int) (x219007_17 : ByteArray), Aside0 (impl_Unpack.j2 kq l0 ji6 false (wrap64 (rd l0 0)) 0 0 0 0 0 0 (⟨#[]⟩ : ByteArray) = some (r1, r2, r3, r4, r5, r6, r7, r8, r9)) ∧ Aside0 (kq ≤ kj11) ∧ Aside0 (wc.heap[gb218]? = some (.cells #[.int .i64 x219000_17, .int .i64 x219001_17, .int .i64 x219002_17, .int .i64 x219003_17, .int .i64 x219004_17, .int .i64 x219005_17, .int .i64 x219006_17, .string x219007_17] 32 (0, 0))) ∧ Aside0 (wc.heap[gb223]? = some (.cells #[.int .i64 (wrap64 (rd l0 0)), .int .i64 0, .int .i64 0, .int .i64 0, .int .i64 0, .int .i64 0, .int .i64 0, .string (⟨#[]⟩ : ByteArray)] 32 (0, 0))) ∧ Aside0 (Below w.heap.size w wc))
         case first =>
          have H := HC18.out
          clear HC18
          by_cases c22 : t224 = true
          ·subst c22
           have H1 : (impl_Unpack.j2 kj11 l0 ji6 false (wrap64 (rd l0 0)) 0 0 0 0 0 0 (⟨#[]⟩ : ByteArray)) = some (r1, r2, r3, r4, r5, r6, r7, r8, r9) := by rw [if_pos rfl] at H; exact H
           clear H
           have H := H1
           clear H1
           have H' := zM H
           clear H
           go_wp2
           repeat (go_quiet (fail); try go_wp2)
           go_meet
           case rel => exact ⟨_, (x219000_11), (x219001_11), (x219002_11), (x219003_11), (x219004_11), (x219005_11), (x219006_11), (x219007_11), H', ⟨by have := HJ1.out; have := HJ11.out; first | omega | exact Nat.le_refl _⟩, ⟨by (with_reducible repeat (first | refine bA ?_ _ | refine bB ?_ | refine bC ?_ _)); refine blk_far ?_ NB218_223.out _; (with_reducible repeat (first | refine bA ?_ _ | refine bB ?_ | refine bC ?_ _)); refine blk_far ?_ NB218_223.out _; (with_reducible repeat (first | refine bA ?_ _ | refine bB ?_ | refine bC ?_ _)); refine blk_far ?_ NB218_223.out _; (with_reducible repeat (first | refine bA ?_ _ | refine bB ?_ | refine bC ?_ _)); refine blk_far ?_ NB218_223.out _; (with_reducible repeat (first | refine bA ?_ _ | refine bB ?_ | refine bC ?_ _)); refine blk_far ?_ NB218_223.out _; (with_reducible repeat (first | refine bA ?_ _ | refine bB ?_ | refine bC ?_ _)); refine blk_far ?_ NB218_223.out _; (with_reducible repeat (first | refine bA ?_ _ | refine bB ?_ | refine bC ?_ _)); refine blk_far ?_ NB218_223.out _; (with_reducible repeat (first | refine bA ?_ _ | refine bB ?_ | refine bC ?_ _)); refine blk_far ?_ NB218_223.out _; (with_reducible repeat (first | refine bA ?_ _ | refine bB ?_ | refine bC ?_ _)); exact BK218.out⟩, ⟨by (with_reducible repeat (first | refine bA ?_ _ | refine bB ?_ | refine bC ?_ _)); refine bH (cs := #[.int .i64 (wrap64 (rd l0 0)), .int .i64 0, .int .i64 0, .int .i64 0, .int .i64 0, .int .i64 0, .int .i64 0, .string (⟨#[]⟩ : ByteArray)]) ?_ 7 _ rfl; (with_reducible repeat (first | refine bA ?_ _ | refine bB ?_ | refine bC ?_ _)); refine bH (cs := #[.int .i64 (wrap64 (rd l0 0)), .int .i64 0, .int .i64 0, .int .i64 0, .int .i64 0, .int .i64 0, .int .i64 0, .string (⟨#[]⟩ : ByteArray)]) ?_ 6 _ rfl; (with_reducible repeat (first | refine bA ?_ _ | refine bB ?_ | refine bC ?_ _)); refine bH (cs := #[.int .i64 (wrap64 (rd l0 0)), .int .i64 0, .int .i64 0, .int .i64 0, .int .i64 0, .int .i64 0, .int .i64 0, .string (⟨#[]⟩ : ByteArray)]) ?_ 5 _ rfl; (with_reducible repeat (first | refine bA ?_ _ | refine bB ?_ | refine bC ?_ _)); refine bH (cs := #[.int .i64 (wrap64 (rd l0 0)), .int .i64 0, .int .i64 0, .int .i64 0, .int .i64 0, .int .i64 0, .int .i64 0, .string (⟨#[]⟩ : ByteArray)]) ?_ 4 _ rfl; (with_reducible repeat (first | refine bA ?_ _ | refine bB ?_ | refine bC ?_ _)); refine bH (cs := #[.int .i64 (wrap64 (rd l0 0)), .int .i64 0, .int .i64 0, .int .i64 0, .int .i64 0, .int .i64 0, .int .i64 0, .string (⟨#[]⟩ : ByteArray)]) ?_ 3 _ rfl; (with_reducible repeat (first | refine bA ?_ _ | refine bB ?_ | refine bC ?_ _)); refine bH (cs := #[.int .i64 (wrap64 (rd l0 0)), .int .i64 0, .int .i64 0, .int .i64 0, .int .i64 0, .int .i64 0, .int .i64 0, .string (⟨#[]⟩ : ByteArray)]) ?_ 2 _ rfl; (with_reducible repeat (first | refine bA ?_ _ | refine bB ?_ | refine bC ?_ _)); refine bH (cs := #[.int .i64 (wrap64 (rd l0 0)), .int .i64 0, .int .i64 0, .int .i64 0, .int .i64 0, .int .i64 0, .int .i64 0, .string (⟨#[]⟩ : ByteArray)]) ?_ 1 _ rfl; (with_reducible repeat (first | refine bA ?_ _ | refine bB ?_ | refine bC ?_ _)); refine bH (cs := #[.int .i64 0, .int .i64 0, .int .i64 0, .int .i64 0, .int .i64 0, .int .i64 0, .int .i64 0, .string (⟨#[]⟩ : ByteArray)]) ?_ 0 _ rfl; (with_reducible repeat (first | refine bA ?_ _ | refine bB ?_ | refine bC ?_ _)); exact BK223.out⟩, ⟨by repeat (first | (with_reducible first | exact HB.out | apply bE | apply bD | apply bF | refine below_set ?_ GE218.out | refine below_set ?_ GE223.out) | exact HB.out)⟩⟩
          ·replace c22 := Bool.eq_false_iff.mpr c22
           subst c22
           have H1 : (some (0, 0, 0, 0, 0, 0, 0, (⟨#[]⟩ : ByteArray), 3)) = some (r1, r2, r3, r4, r5, r6, r7, r8, r9) := by rw [if_neg (show ¬ (false = true) by decide)] at H; exact H
           clear H
           have H := H1
           clear H1
           simp only [zI, zJ] at H
           obtain ⟨rfl, rfl, rfl, rfl, rfl, rfl, rfl, rfl, rfl⟩ := H
           have hnb23 := NB218_223.out
           have hnc23 := NB223_218.out
           have hcz24_0 : w19.cell? ⟨gb218, 0, none⟩ = some (.int .i64 x219000_11) := (blk_cell BK218.out 0).trans rfl
           have hcz24_1 : w19.cell? ⟨gb218, 1, none⟩ = some (.int .i64 x219001_11) := (blk_cell BK218.out 1).trans rfl
           have hcz24_2 : w19.cell? ⟨gb218, 2, none⟩ = some (.int .i64 x219002_11) := (blk_cell BK218.out 2).trans rfl
           have hcz24_3 : w19.cell? ⟨gb218, 3, none⟩ = some (.int .i64 x219003_11) := (blk_cell BK218.out 3).trans rfl
           have hcz24_4 : w19.cell? ⟨gb218, 4, none⟩ = some (.int .i64 x219004_11) := (blk_cell BK218.out 4).trans rfl
           have hcz24_5 : w19.cell? ⟨gb218, 5, none⟩ = some (.int .i64 x219005_11) := (blk_cell BK218.out 5).trans rfl
           have hcz24_6 : w19.cell? ⟨gb218, 6, none⟩ = some (.int .i64 x219006_11) := (blk_cell BK218.out 6).trans rfl
           have hcz24_7 : w19.cell? ⟨gb218, 7, none⟩ = some (.string x219007_11) := (blk_cell BK218.out 7).trans rfl
           have hfz24_0 := blk_frozen BK218.out 0
           have hfz24_1 := blk_frozen BK218.out 1
           have hfz24_2 := blk_frozen BK218.out 2
           have hfz24_3 := blk_frozen BK218.out 3
           have hfz24_4 := blk_frozen BK218.out 4
           have hfz24_5 := blk_frozen BK218.out 5
           have hfz24_6 := blk_frozen BK218.out 6
           have hfz24_7 := blk_frozen BK218.out 7
           go_wp2
           repeat (go_quiet (fail); try go_wp2)
           refine bodyPost_ret (results_ct rfl _ _ gb218 32 #[.int .i64 0, .int .i64 0, .int .i64 0, .int .i64 0, .int .i64 0, .int .i64 0, .int .i64 0, .string (⟨#[]⟩ : ByteArray)] (0, 0) _ rfl (by (with_reducible repeat (first | refine bA ?_ _ | refine bB ?_ | refine bC ?_ _)); refine bH (cs := #[.int .i64 0, .int .i64 0, .int .i64 0, .int .i64 0, .int .i64 0, .int .i64 0, .int .i64 0, .string x219007_11]) ?_ 7 _ rfl; (with_reducible repeat (first | refine bA ?_ _ | refine bB ?_ | refine bC ?_ _)); refine bH (cs := #[.int .i64 0, .int .i64 0, .int .i64 0, .int .i64 0, .int .i64 0, .int .i64 0, .int .i64 x219006_11, .string x219007_11]) ?_ 6 _ rfl; (with_reducible repeat (first | refine bA ?_ _ | refine bB ?_ | refine bC ?_ _)); refine bH (cs := #[.int .i64 0, .int .i64 0, .int .i64 0, .int .i64 0, .int .i64 0, .int .i64 x219005_11, .int .i64 x219006_11, .string x219007_11]) ?_ 5 _ rfl; (with_reducible repeat (first | refine bA ?_ _ | refine bB ?_ | refine bC ?_ _)); refine bH (cs := #[.int .i64 0, .int .i64 0, .int .i64 0, .int .i64 0, .int .i64 x219004_11, .int .i64 x219005_11, .int .i64 x219006_11, .string x219007_11]) ?_ 4 _ rfl; (with_reducible repeat (first | refine bA ?_ _ | refine bB ?_ | refine bC ?_ _)); refine bH (cs := #[.int .i64 0, .int .i64 0, .int .i64 0, .int .i64 x219003_11, .int .i64 x219004_11, .int .i64 x219005_11, .int .i64 x219006_11, .string x219007_11]) ?_ 3 _ rfl; (with_reducible repeat (first | refine bA ?_ _ | refine bB ?_ | refine bC ?_ _)); refine bH (cs := #[.int .i64 0, .int .i64 0, .int .i64 x219002_11, .int .i64 x219003_11, .int .i64 x219004_11, .int .i64 x219005_11, .int .i64 x219006_11, .string x219007_11]) ?_ 2 _ rfl; (with_reducible repeat (first | refine bA ?_ _ | refine bB ?_ | refine bC ?_ _)); refine bH (cs := #[.int .i64 0, .int .i64 x219001_11, .int .i64 x219002_11, .int .i64 x219003_11, .int .i64 x219004_11, .int .i64 x219005_11, .int .i64 x219006_11, .string x219007_11]) ?_ 1 _ rfl; (with_reducible repeat (first | refine bA ?_ _ | refine bB ?_ | refine bC ?_ _)); refine bH (cs := #[.int .i64 x219000_11, .int .i64 x219001_11, .int .i64 x219002_11, .int .i64 x219003_11, .int .i64 x219004_11, .int .i64 x219005_11, .int .i64 x219006_11, .string x219007_11]) ?_ 0 _ rfl; (with_reducible repeat (first | refine bA ?_ _ | refine bB ?_ | refine bC ?_ _)); refine blk_far ?_ NB218_223.out _; (with_reducible repeat (first | refine bA ?_ _ | refine bB ?_ | refine bC ?_ _)); refine blk_far ?_ NB218_223.out _; (with_reducible repeat (first | refine bA ?_ _ | refine bB ?_ | refine bC ?_ _)); refine blk_far ?_ NB218_223.out _; (with_reducible repeat (first | refine bA ?_ _ | refine bB ?_ | refine bC ?_ _)); refine blk_far ?_ NB218_223.out _; (with_reducible repeat (first | refine bA ?_ _ | refine bB ?_ | refine bC ?_ _)); refine blk_far ?_ NB218_223.out _; (with_reducible repeat (first | refine bA ?_ _ | refine bB ?_ | refine bC ?_ _)); refine blk_far ?_ NB218_223.out _; (with_reducible repeat (first | refine bA ?_ _ | refine bB ?_ | refine bC ?_ _)); refine blk_far ?_ NB218_223.out _; (with_reducible repeat (first | refine bA ?_ _ | refine bB ?_ | refine bC ?_ _)); refine blk_far ?_ NB218_223.out _; (with_reducible repeat (first | refine bA ?_ _ | refine bB ?_ | refine bC ?_ _)); exact BK218.out) Try.underlying32 rfl (by kernel_rfl)) rfl ?_
           exact ⟨by first | rfl | (simp only [← hji6]; first | rfl | (simp [errW_none, errW_some] <;> rfl)) | (simp [*, errW_none, errW_some] <;> rfl), by repeat (first | (with_reducible first | exact HB.out | apply bE | apply bD | apply bF | refine below_set ?_ GE218.out | refine below_set ?_ GE223.out) | exact HB.out)⟩
         case rest =>
          clear HC18
          try clear c1
          try clear c2
          try clear p2
          try clear q2
          try clear hx2
          try clear qi2
          try clear c4
          try clear c4b0
          try clear c4b1
          try clear p6
          try clear c7
          try clear c7b0
          try clear c8
          try clear c8b0
          try clear c9
          try clear c9b0
          try clear c10
          try clear c10b0
          try clear c10b1
          try clear c14
          try clear c14b0
          try clear c14b1
          try clear c16
          try clear c16b0
          try clear c16b1
          try clear c19
          try clear c20
          try clear p21
          try clear q21
          try clear hx21
          try clear c22
          try clear p22
          try clear q22
          try clear hx22
          try clear qi22
          try clear c23
          try clear hcz15_0
          try clear hcz15_1
          try clear hcz15_2
          try clear hcz15_3
          try clear hcz15_4
          try clear hcz15_5
          try clear hcz15_6
          try clear hcz15_7
          try clear hcz21_0
          try clear hcz21_1
          try clear hcz21_2
          try clear hcz21_3
          try clear hcz21_4
          try clear hcz21_5
          try clear hcz21_6
          try clear hcz21_7
          try clear hcz24_0
          try clear hcz24_1
          try clear hcz24_2
          try clear hcz24_3
          try clear hcz24_4
          try clear hcz24_5
          try clear hcz24_6
          try clear hcz24_7
          try clear hcz5_0
          try clear hcz5_1
          try clear hcz5_2
          try clear hcz5_3
          try clear hcz5_4
          try clear hcz5_5
          try clear hcz5_6
          try clear hcz5_7
          try clear hfz15_0
          try clear hfz15_1
          try clear hfz15_2
          try clear hfz15_3
          try clear hfz15_4
          try clear hfz15_5
          try clear hfz15_6
          try clear hfz15_7
          try clear hfz21_0
          try clear hfz21_1
          try clear hfz21_2
          try clear hfz21_3
          try clear hfz21_4
          try clear hfz21_5
          try clear hfz21_6
          try clear hfz21_7
          try clear hfz24_0
          try clear hfz24_1
          try clear hfz24_2
          try clear hfz24_3
          try clear hfz24_4
          try clear hfz24_5
          try clear hfz24_6
          try clear hfz24_7
          try clear hfz5_0
          try clear hfz5_1
          try clear hfz5_2
          try clear hfz5_3
          try clear hfz5_4
          try clear hfz5_5
          try clear hfz5_6
          try clear hfz5_7
          try clear hx219_0
          try clear hx222_0
          try clear p2
          try clear p219
          try clear p222
          try clear p6
          try clear q2
          try clear q219
          try clear q222
          obtain ⟨kq, x219000_17, x219001_17, x219002_17, x219003_17, x219004_17, x219005_17, x219006_17, x219007_17, HA, HJ17, BK218, BK223, HB⟩ := hcut
          cases kq with
          | zero => exact absurd HA.out (by simp [impl_Unpack.j2])
          | succ kj17 =>
           have H := HA.out
           clear HA
           simp only [impl_Unpack.j2] at H
           by_cases c25 : 0 ≤ ji6
           ·rw [if_pos c25] at H
            have c25b0 := eq_true c25
            have c25b1 : decide (0 ≤ ji6) = true := decide_eq_true c25
            clear c25
            by_cases c26 : ji6 ≤ (l0.length : Int)
            ·rw [if_pos c26] at H
             have c26b0 := eq_true c26
             have c26b1 : decide (ji6 ≤ (l0.length : Int)) = true := decide_eq_true c26
             clear c26
             replace H := zO H
             obtain ⟨⟨t227, t228, t229⟩, A270, H⟩ := H
             replace H : (if (wrap64 (rd l0 0)) = 3 then ((impl_wire_num.f kj17 (l0.take (ji6 : Int).toNat) t228 t229).bind fun bt230 => ((impl_wire_num.f kj17 (l0.take (ji6 : Int).toNat) bt230.2.1 bt230.2.2).bind fun bt233 => ((impl_wire_text.f (l0.take (ji6 : Int).toNat) bt233.2.1 bt233.2.2 bt233.1).bind fun bt236 => (impl_Unpack.j3 kj17 ji6 false (wrap64 (rd l0 0)) t227 0 0 0 0 bt230.1 bt236.1 (l0.take (ji6 : Int).toNat) bt236.2.1 bt236.2.2)))) else ((impl_wire_num.f kj17 (l0.take (ji6 : Int).toNat) t228 t229).bind fun bt239 => ((impl_wire_num.f kj17 (l0.take (ji6 : Int).toNat) bt239.2.1 bt239.2.2).bind fun bt242 => (impl_Unpack.j3 kj17 ji6 false (wrap64 (rd l0 0)) t227 bt239.1 bt242.1 0 0 0 (⟨#[]⟩ : ByteArray) (l0.take (ji6 : Int).toNat) bt242.2.1 bt242.2.2)))) = some (r1, r2, r3, r4, r5, r6, r7, r8, r9) := H
             have A27 := zM A270
             clear A270
             have HC28 := zM H
             clear H
             obtain ⟨i029, hi029, _, hsz29, _⟩ := info_parts info5
             obtain ⟨hcut29, hA29, hC29⟩ := print_take_of (P := Try.prog) (Value.int .u8) 0 27 5 .i64 Try.underlying27 hi029 hsz29 (some ad219) c0 l0 ji6 (of_decide_eq_true (by first | (with_reducible assumption) | assumption)) (of_decide_eq_true (by first | (with_reducible assumption) | assumption)) HC0.out
             have HZ_ji6_l0 : Aside0 (((ji6) : Int) ≤ (l0.length : Int)) := ⟨of_decide_eq_true (by first | (with_reducible assumption) | assumption)⟩
             have HR225 := zM (Kd.C_of_reads (h1 := fun _ => rfl) (hA29 _ (Kd.reads_of_C HR0.out)))
             have HC225 := zM hC29
             clear hA29 hC29 hi029 hsz29
             iterate 2 ((try go_quiet (fail)); (go_upto_if 48 with (first | ((with_reducible refine gate_dst (N := 42) rfl ?_); refine box_event ?hg (N := 42) ?hd (cs := #[.slice (some ad219) (l0.take (ji6 : Int).toNat).length c0, .int .i64 1, .bool false]) (t := 66) ?hr ?_; (case hd => rfl); (case hg => rfl); (case hr => first | (go_simp; done) | (go_simp; rfl)); intro gb226 hg w30 hbox hb; have n0_ := zM (blk_below (g := gb218) (o := .cells #[.int .i64 x219000_17, .int .i64 x219001_17, .int .i64 x219002_17, .int .i64 x219003_17, .int .i64 x219004_17, .int .i64 x219005_17, .int .i64 x219006_17, .string x219007_17] 32 (0, 0)) (by (with_reducible repeat (first | refine bA ?_ _ | refine bB ?_ | refine bC ?_ _)); exact BK218.out) hb); have n1_ := zM (blk_below (g := gb223) (o := .cells #[.int .i64 (wrap64 (rd l0 0)), .int .i64 0, .int .i64 0, .int .i64 0, .int .i64 0, .int .i64 0, .int .i64 0, .string (⟨#[]⟩ : ByteArray)] 32 (0, 0)) (by (with_reducible repeat (first | refine bA ?_ _ | refine bB ?_ | refine bC ?_ _)); exact BK223.out) hb); have n2_ := zM (bG (by repeat (first | (with_reducible first | exact HB.out | apply bE | apply bD | apply bF | refine below_set ?_ GE218.out | refine below_set ?_ GE223.out) | exact HB.out)) hb); have n3_ := zM (hbox); have n4_ := zM ((by rw [hg]; exact (below_size (by repeat (first | (with_reducible first | exact HB.out | apply bE | apply bD | apply bF | refine below_set ?_ GE218.out | refine below_set ?_ GE223.out) | exact HB.out))) : w.heap.size ≤ gb226)); have n5_ := zM ((by rw [hg]; exact (below_size (by repeat (first | (with_reducible first | exact HB.out | apply bE | apply bD | apply bF | refine below_set ?_ GE218.out | refine below_set ?_ GE223.out) | exact HB.out))) : w.heap.size ≤ gb226)); have n6_ := zM ((by rw [hg]; exact Nat.ne_of_lt (blk_lt (g := gb218) (o := .cells #[.int .i64 x219000_17, .int .i64 x219001_17, .int .i64 x219002_17, .int .i64 x219003_17, .int .i64 x219004_17, .int .i64 x219005_17, .int .i64 x219006_17, .string x219007_17] 32 (0, 0)) (by (with_reducible repeat (first | refine bA ?_ _ | refine bB ?_ | refine bC ?_ _)); exact BK218.out)) : gb218 ≠ gb226)); have n7_ := zM ((by rw [hg]; exact Nat.ne_of_gt (blk_lt (g := gb218) (o := .cells #[.int .i64 x219000_17, .int .i64 x219001_17, .int .i64 x219002_17, .int .i64 x219003_17, .int .i64 x219004_17, .int .i64 x219005_17, .int .i64 x219006_17, .string x219007_17] 32 (0, 0)) (by (with_reducible repeat (first | refine bA ?_ _ | refine bB ?_ | refine bC ?_ _)); exact BK218.out)) : gb226 ≠ gb218)); have n8_ := zM ((by rw [hg]; exact Nat.ne_of_lt (blk_lt (g := gb223) (o := .cells #[.int .i64 (wrap64 (rd l0 0)), .int .i64 0, .int .i64 0, .int .i64 0, .int .i64 0, .int .i64 0, .int .i64 0, .string (⟨#[]⟩ : ByteArray)] 32 (0, 0)) (by (with_reducible repeat (first | refine bA ?_ _ | refine bB ?_ | refine bC ?_ _)); exact BK223.out)) : gb223 ≠ gb226)); have n9_ := zM ((by rw [hg]; exact Nat.ne_of_gt (blk_lt (g := gb223) (o := .cells #[.int .i64 (wrap64 (rd l0 0)), .int .i64 0, .int .i64 0, .int .i64 0, .int .i64 0, .int .i64 0, .int .i64 0, .string (⟨#[]⟩ : ByteArray)] 32 (0, 0)) (by (with_reducible repeat (first | refine bA ?_ _ | refine bB ?_ | refine bC ?_ _)); exact BK223.out)) : gb226 ≠ gb223)); clear BK218; clear BK223; clear HB; have BK218 := n0_; have BK223 := n1_; have HB := n2_; have BK226 := n3_; have GW226 := n4_; have GE226 := n5_; have NB218_226 := n6_; have NB226_218 := n7_; have NB223_226 := n8_; have NB226_223 := n9_; clear n0_ n1_ n2_ n3_ n4_ n5_ n6_ n7_ n8_ n9_; clear hb hbox hg; have HI226 := zM (show IsS66 w _ gb226 (l0.take (ji6 : Int).toNat) 1 false from ⟨(some ad219), c0, (by (with_reducible repeat (first | refine bA ?_ _ | refine bB ?_ | refine bC ?_ _)); exact BK226.out), GE226.out, ⟨HR225.out, HC225.out⟩⟩)) | (go_at_call 48; (with_reducible refine (impl_wire_num.calls kj17 gb226 (l0.take (ji6 : Int).toNat) 1 false t227 t228 t229 w _ ?side1 ?side2 A27.out).mono ?_); (case side1 => repeat (first | (with_reducible first | exact HI226.out | apply IsS66.alloc | apply IsS66.drewN | apply IsS66.drew | apply IsS66.set_1 | apply IsS66.set_2 | refine IsS66.far ?_ NB226_218.out _ | refine IsS66.far ?_ NB226_223.out _) | exact HI226.out)); (case side2 => repeat (first | (with_reducible first | exact HB.out | apply bE | apply bD | apply bF | refine below_set ?_ (IsS66.ge HI226.out) | refine below_set ?_ GE218.out | refine below_set ?_ GE223.out) | exact HB.out)); rintro e w31 ⟨rfl, hi, hb, hk⟩; have n0_ := zM (KeepBut.blk hk (g' := gb218) (o := .cells #[.int .i64 x219000_17, .int .i64 x219001_17, .int .i64 x219002_17, .int .i64 x219003_17, .int .i64 x219004_17, .int .i64 x219005_17, .int .i64 x219006_17, .string x219007_17] 32 (0, 0)) (by (with_reducible repeat (first | refine bA ?_ _ | refine bB ?_ | refine bC ?_ _)); exact BK218.out) NB218_226.out (by simp)); have n1_ := zM (KeepBut.blk hk (g' := gb223) (o := .cells #[.int .i64 (wrap64 (rd l0 0)), .int .i64 0, .int .i64 0, .int .i64 0, .int .i64 0, .int .i64 0, .int .i64 0, .string (⟨#[]⟩ : ByteArray)] 32 (0, 0)) (by (with_reducible repeat (first | refine bA ?_ _ | refine bB ?_ | refine bC ?_ _)); exact BK223.out) NB223_226.out (by simp)); have n2_ := zM (hb); have n3_ := zM (hi); clear BK218; clear BK223; clear HB; clear HI226; have BK218 := n0_; have BK223 := n1_; have HB := n2_; have HI226 := n3_; clear n0_ n1_ n2_ n3_; (try clear hb); (try clear hk); (try clear hi); have hnb32 := NB223_218.out; have hnc32 := NB218_223.out; have hnb33 := NB223_226.out; have hnc33 := NB226_223.out; have hcz34_0 : w31.cell? ⟨gb223, 0, none⟩ = some (.int .i64 (wrap64 (rd l0 0))) := (blk_cell BK223.out 0).trans rfl; have hcz34_1 : w31.cell? ⟨gb223, 1, none⟩ = some (.int .i64 0) := (blk_cell BK223.out 1).trans rfl; have hcz34_2 : w31.cell? ⟨gb223, 2, none⟩ = some (.int .i64 0) := (blk_cell BK223.out 2).trans rfl; have hcz34_3 : w31.cell? ⟨gb223, 3, none⟩ = some (.int .i64 0) := (blk_cell BK223.out 3).trans rfl; have hcz34_4 : w31.cell? ⟨gb223, 4, none⟩ = some (.int .i64 0) := (blk_cell BK223.out 4).trans rfl; have hcz34_5 : w31.cell? ⟨gb223, 5, none⟩ = some (.int .i64 0) := (blk_cell BK223.out 5).trans rfl; have hcz34_6 : w31.cell? ⟨gb223, 6, none⟩ = some (.int .i64 0) := (blk_cell BK223.out 6).trans rfl; have hcz34_7 : w31.cell? ⟨gb223, 7, none⟩ = some (.string (⟨#[]⟩ : ByteArray)) := (blk_cell BK223.out 7).trans rfl; have hfz34_0 := blk_frozen BK223.out 0; have hfz34_1 := blk_frozen BK223.out 1; have hfz34_2 := blk_frozen BK223.out 2; have hfz34_3 := blk_frozen BK223.out 3; have hfz34_4 := blk_frozen BK223.out 4; have hfz34_5 := blk_frozen BK223.out 5; have hfz34_6 := blk_frozen BK223.out 6; have hfz34_7 := blk_frozen BK223.out 7))))
             (try simp only [Act.put, zS, z0, z1])
             go_cut [] (fun wc => ∃ (kq : Nat) (x224002_27 : Int) (x224003_27 : Int) (x224006_27 : Int) (x224007_27 : ByteArray) (x227001_27 : Int) (x227002_27 : Bool), Aside0 (impl_Unpack.j3 kq ji6 false (wrap64 (rd l0 0)) t227 x224002_27 x224003_27 0 0 x224006_27 x224007_27 (l0.take (ji6 : Int).toNat) x227001_27 x227002_27 = some (r1, r2, r3, r4, r5, r6, r7, r8, r9)) ∧ Aside0 (kq ≤ kj17) ∧ Aside0 (wc.heap[gb218]? = some (.cells #[.int .i64 x219000_17, .int .i64 x219001_17, .int .i64 x219002_17, .int .i64 x219003_17, .int .i64 x219004_17, .int .i64 x219005_17, .int .i64 x219006_17, .string x219007_17] 32 (0, 0))) ∧ Aside0 (wc.heap[gb223]? = some (.cells #[.int .i64 (wrap64 (rd l0 0)), .int .i64 t227, .int .i64 x224002_27, .int .i64 x224003_27, .int .i64 0, .int .i64 0, .int .i64 x224006_27, .string x224007_27] 32 (0, 0))) ∧ Aside0 (IsS66 w wc gb226 (l0.take (ji6 : Int).toNat) x227001_27 x227002_27) ∧ Aside0 (Below w.heap.size w wc))
             case first =>
              have H := HC28.out
              clear HC28
              by_cases c35 : (wrap64 (rd l0 0)) = 3
              ·rw [if_pos c35] at H
               have c35b0 : ((wrap64 (rd l0 0)) == 3) = true := beq_iff_eq.mpr c35
               have c35b1 : ((wrap64 (rd l0 0)) != 3) = false := bne_eq_false_iff_eq.mpr c35
               clear c35
               (first | rw [c35b0] | (simp only [i64_w, i32_w]; rw [c35b0]) | skip)
               replace H := zO H
               obtain ⟨⟨t230, t231, t232⟩, A360, H⟩ := H
               replace H : ((impl_wire_num.f kj17 (l0.take (ji6 : Int).toNat) t231 t232).bind fun bt233 => ((impl_wire_text.f (l0.take (ji6 : Int).toNat) bt233.2.1 bt233.2.2 bt233.1).bind fun bt236 => (impl_Unpack.j3 kj17 ji6 false (wrap64 (rd l0 0)) t227 0 0 0 0 t230 bt236.1 (l0.take (ji6 : Int).toNat) bt236.2.1 bt236.2.2))) = some (r1, r2, r3, r4, r5, r6, r7, r8, r9) := H
               have A36 := zM A360
               clear A360
               replace H := zO H
               obtain ⟨⟨t233, t234, t235⟩, A370, H⟩ := H
               replace H : ((impl_wire_text.f (l0.take (ji6 : Int).toNat) t234 t235 t233).bind fun bt236 => (impl_Unpack.j3 kj17 ji6 false (wrap64 (rd l0 0)) t227 0 0 0 0 t230 bt236.1 (l0.take (ji6 : Int).toNat) bt236.2.1 bt236.2.2)) = some (r1, r2, r3, r4, r5, r6, r7, r8, r9) := H
               have A37 := zM A370
               clear A370
               replace H := zO H
               obtain ⟨⟨t236, t237, t238⟩, A380, H⟩ := H
               replace H : (impl_Unpack.j3 kj17 ji6 false (wrap64 (rd l0 0)) t227 0 0 0 0 t230 t236 (l0.take (ji6 : Int).toNat) t237 t238) = some (r1, r2, r3, r4, r5, r6, r7, r8, r9) := H
               have A38 := zM A380
               clear A380
               have H' := zM H
               clear H
               iterate 2 ((go_wp2_with (first | (go_at_call 48; (with_reducible refine (impl_wire_num.calls kj17 gb226 (l0.take (ji6 : Int).toNat) t228 t229 t230 t231 t232 w _ ?side1 ?side2 A36.out).mono ?_); (case side1 => repeat (first | (with_reducible first | exact HI226.out | apply IsS66.alloc | apply IsS66.drewN | apply IsS66.drew | apply IsS66.set_1 | apply IsS66.set_2 | refine IsS66.far ?_ NB226_218.out _ | refine IsS66.far ?_ NB226_223.out _) | exact HI226.out)); (case side2 => repeat (first | (with_reducible first | exact HB.out | apply bE | apply bD | apply bF | refine below_set ?_ (IsS66.ge HI226.out) | refine below_set ?_ GE218.out | refine below_set ?_ GE223.out) | exact HB.out)); rintro e w39 ⟨rfl, hi, hb, hk⟩; have n0_ := zM (KeepBut.blk hk (g' := gb218) (o := .cells #[.int .i64 x219000_17, .int .i64 x219001_17, .int .i64 x219002_17, .int .i64 x219003_17, .int .i64 x219004_17, .int .i64 x219005_17, .int .i64 x219006_17, .string x219007_17] 32 (0, 0)) (by (with_reducible repeat (first | refine bA ?_ _ | refine bB ?_ | refine bC ?_ _)); refine blk_far ?_ NB218_223.out _; (with_reducible repeat (first | refine bA ?_ _ | refine bB ?_ | refine bC ?_ _)); exact BK218.out) NB218_226.out (by simp)); have n1_ := zM (KeepBut.blk hk (g' := gb223) (o := .cells #[.int .i64 (wrap64 (rd l0 0)), .int .i64 t227, .int .i64 0, .int .i64 0, .int .i64 0, .int .i64 0, .int .i64 0, .string (⟨#[]⟩ : ByteArray)] 32 (0, 0)) (by (with_reducible repeat (first | refine bA ?_ _ | refine bB ?_ | refine bC ?_ _)); refine bH (cs := #[.int .i64 (wrap64 (rd l0 0)), .int .i64 0, .int .i64 0, .int .i64 0, .int .i64 0, .int .i64 0, .int .i64 0, .string (⟨#[]⟩ : ByteArray)]) ?_ 1 _ rfl; (with_reducible repeat (first | refine bA ?_ _ | refine bB ?_ | refine bC ?_ _)); exact BK223.out) NB223_226.out (by simp)); have n2_ := zM (hb); have n3_ := zM (hi); clear BK218; clear BK223; clear HB; clear HI226; have BK218 := n0_; have BK223 := n1_; have HB := n2_; have HI226 := n3_; clear n0_ n1_ n2_ n3_; (try clear hb); (try clear hk); (try clear hi); have hnb40 := NB223_218.out; have hnc40 := NB218_223.out; have hnb41 := NB223_226.out; have hnc41 := NB226_223.out; have hcz42_0 : w39.cell? ⟨gb223, 0, none⟩ = some (.int .i64 (wrap64 (rd l0 0))) := (blk_cell BK223.out 0).trans rfl; have hcz42_1 : w39.cell? ⟨gb223, 1, none⟩ = some (.int .i64 t227) := (blk_cell BK223.out 1).trans rfl; have hcz42_2 : w39.cell? ⟨gb223, 2, none⟩ = some (.int .i64 0) := (blk_cell BK223.out 2).trans rfl; have hcz42_3 : w39.cell? ⟨gb223, 3, none⟩ = some (.int .i64 0) := (blk_cell BK223.out 3).trans rfl; have hcz42_4 : w39.cell? ⟨gb223, 4, none⟩ = some (.int .i64 0) := (blk_cell BK223.out 4).trans rfl; have hcz42_5 : w39.cell? ⟨gb223, 5, none⟩ = some (.int .i64 0) := (blk_cell BK223.out 5).trans rfl; have hcz42_6 : w39.cell? ⟨gb223, 6, none⟩ = some (.int .i64 0) := (blk_cell BK223.out 6).trans rfl; have hcz42_7 : w39.cell? ⟨gb223, 7, none⟩ = some (.string (⟨#[]⟩ : ByteArray)) := (blk_cell BK223.out 7).trans rfl; have hfz42_0 := blk_frozen BK223.out 0; have hfz42_1 := blk_frozen BK223.out 1; have hfz42_2 := blk_frozen BK223.out 2; have hfz42_3 := blk_frozen BK223.out 3; have hfz42_4 := blk_frozen BK223.out 4; have hfz42_5 := blk_frozen BK223.out 5; have hfz42_6 := blk_frozen BK223.out 6; have hfz42_7 := blk_frozen BK223.out 7) | (go_at_call 48; (with_reducible refine (impl_wire_num.calls kj17 gb226 (l0.take (ji6 : Int).toNat) t231 t232 t233 t234 t235 w _ ?side1 ?side2 A37.out).mono ?_); (case side1 => repeat (first | (with_reducible first | exact HI226.out | apply IsS66.alloc | apply IsS66.drewN | apply IsS66.drew | apply IsS66.set_1 | apply IsS66.set_2 | refine IsS66.far ?_ NB226_218.out _ | refine IsS66.far ?_ NB226_223.out _) | exact HI226.out)); (case side2 => repeat (first | (with_reducible first | exact HB.out | apply bE | apply bD | apply bF | refine below_set ?_ (IsS66.ge HI226.out) | refine below_set ?_ GE218.out | refine below_set ?_ GE223.out) | exact HB.out)); rintro e w43 ⟨rfl, hi, hb, hk⟩; have n0_ := zM (KeepBut.blk hk (g' := gb218) (o := .cells #[.int .i64 x219000_17, .int .i64 x219001_17, .int .i64 x219002_17, .int .i64 x219003_17, .int .i64 x219004_17, .int .i64 x219005_17, .int .i64 x219006_17, .string x219007_17] 32 (0, 0)) (by (with_reducible repeat (first | refine bA ?_ _ | refine bB ?_ | refine bC ?_ _)); refine blk_far ?_ NB218_223.out _; (with_reducible repeat (first | refine bA ?_ _ | refine bB ?_ | refine bC ?_ _)); exact BK218.out) NB218_226.out (by simp)); have n1_ := zM (KeepBut.blk hk (g' := gb223) (o := .cells #[.int .i64 (wrap64 (rd l0 0)), .int .i64 t227, .int .i64 0, .int .i64 0, .int .i64 0, .int .i64 0, .int .i64 t230, .string (⟨#[]⟩ : ByteArray)] 32 (0, 0)) (by (with_reducible repeat (first | refine bA ?_ _ | refine bB ?_ | refine bC ?_ _)); refine bH (cs := #[.int .i64 (wrap64 (rd l0 0)), .int .i64 t227, .int .i64 0, .int .i64 0, .int .i64 0, .int .i64 0, .int .i64 0, .string (⟨#[]⟩ : ByteArray)]) ?_ 6 _ rfl; (with_reducible repeat (first | refine bA ?_ _ | refine bB ?_ | refine bC ?_ _)); exact BK223.out) NB223_226.out (by simp)); have n2_ := zM (hb); have n3_ := zM (hi); clear BK218; clear BK223; clear HB; clear HI226; have BK218 := n0_; have BK223 := n1_; have HB := n2_; have HI226 := n3_; clear n0_ n1_ n2_ n3_; (try clear hb); (try clear hk); (try clear hi)) | (go_at_call 49; (with_reducible refine (impl_wire_text.calls gb226 (l0.take (ji6 : Int).toNat) t234 t235 t233 t236 t237 t238 w _ ?side1 ?side2 A38.out).mono ?_); (case side1 => repeat (first | (with_reducible first | exact HI226.out | apply IsS66.alloc | apply IsS66.drewN | apply IsS66.drew | apply IsS66.set_1 | apply IsS66.set_2 | refine IsS66.far ?_ NB226_218.out _ | refine IsS66.far ?_ NB226_223.out _) | exact HI226.out)); (case side2 => repeat (first | (with_reducible first | exact HB.out | apply bE | apply bD | apply bF | refine below_set ?_ (IsS66.ge HI226.out) | refine below_set ?_ GE218.out | refine below_set ?_ GE223.out) | exact HB.out)); rintro e w44 ⟨rfl, hi, hb, hk⟩; have n0_ := zM (KeepBut.blk hk (g' := gb218) (o := .cells #[.int .i64 x219000_17, .int .i64 x219001_17, .int .i64 x219002_17, .int .i64 x219003_17, .int .i64 x219004_17, .int .i64 x219005_17, .int .i64 x219006_17, .string x219007_17] 32 (0, 0)) (by (with_reducible repeat (first | refine bA ?_ _ | refine bB ?_ | refine bC ?_ _)); exact BK218.out) NB218_226.out (by simp)); have n1_ := zM (KeepBut.blk hk (g' := gb223) (o := .cells #[.int .i64 (wrap64 (rd l0 0)), .int .i64 t227, .int .i64 0, .int .i64 0, .int .i64 0, .int .i64 0, .int .i64 t230, .string (⟨#[]⟩ : ByteArray)] 32 (0, 0)) (by (with_reducible repeat (first | refine bA ?_ _ | refine bB ?_ | refine bC ?_ _)); exact BK223.out) NB223_226.out (by simp)); have n2_ := zM (hb); have n3_ := zM (hi); clear BK218; clear BK223; clear HB; clear HI226; have BK218 := n0_; have BK223 := n1_; have HB := n2_; have HI226 := n3_; clear n0_ n1_ n2_ n3_; (try clear hb); (try clear hk); (try clear hi); have hcz45_0 : w44.cell? ⟨gb223, 0, none⟩ = some (.int .i64 (wrap64 (rd l0 0))) := (blk_cell BK223.out 0).trans rfl; have hcz45_1 : w44.cell? ⟨gb223, 1, none⟩ = some (.int .i64 t227) := (blk_cell BK223.out 1).trans rfl; have hcz45_2 : w44.cell? ⟨gb223, 2, none⟩ = some (.int .i64 0) := (blk_cell BK223.out 2).trans rfl; have hcz45_3 : w44.cell? ⟨gb223, 3, none⟩ = some (.int .i64 0) := (blk_cell BK223.out 3).trans rfl; have hcz45_4 : w44.cell? ⟨gb223, 4, none⟩ = some (.int .i64 0) := (blk_cell BK223.out 4).trans rfl; have hcz45_5 : w44.cell? ⟨gb223, 5, none⟩ = some (.int .i64 0) := (blk_cell BK223.out 5).trans rfl; have hcz45_6 : w44.cell? ⟨gb223, 6, none⟩ = some (.int .i64 t230) := (blk_cell BK223.out 6).trans rfl; have hcz45_7 : w44.cell? ⟨gb223, 7, none⟩ = some (.string (⟨#[]⟩ : ByteArray)) := (blk_cell BK223.out 7).trans rfl; have hfz45_0 := blk_frozen BK223.out 0; have hfz45_1 := blk_frozen BK223.out 1; have hfz45_2 := blk_frozen BK223.out 2; have hfz45_3 := blk_frozen BK223.out 3; have hfz45_4 := blk_frozen BK223.out 4; have hfz45_5 := blk_frozen BK223.out 5; have hfz45_6 := blk_frozen BK223.out 6; have hfz45_7 := blk_frozen BK223.out 7))); (try go_quiet (fail)))
               go_meet
               case rel => exact ⟨_, (0), (0), (t230), (t236), (t237), (t238), H', ⟨by have := HJ1.out; have := HJ11.out; have := HJ17.out; first | omega | exact Nat.le_refl _⟩, ⟨by (with_reducible repeat (first | refine bA ?_ _ | refine bB ?_ | refine bC ?_ _)); refine blk_far ?_ NB218_223.out _; (with_reducible repeat (first | refine bA ?_ _ | refine bB ?_ | refine bC ?_ _)); exact BK218.out⟩, ⟨by (with_reducible repeat (first | refine bA ?_ _ | refine bB ?_ | refine bC ?_ _)); refine bH (cs := #[.int .i64 (wrap64 (rd l0 0)), .int .i64 t227, .int .i64 0, .int .i64 0, .int .i64 0, .int .i64 0, .int .i64 t230, .string (⟨#[]⟩ : ByteArray)]) ?_ 7 _ rfl; (with_reducible repeat (first | refine bA ?_ _ | refine bB ?_ | refine bC ?_ _)); exact BK223.out⟩, ⟨by repeat (first | (with_reducible first | exact HI226.out | apply IsS66.alloc | apply IsS66.drewN | apply IsS66.drew | apply IsS66.set_1 | apply IsS66.set_2 | refine IsS66.far ?_ NB226_218.out _ | refine IsS66.far ?_ NB226_223.out _) | exact HI226.out)⟩, ⟨by repeat (first | (with_reducible first | exact HB.out | apply bE | apply bD | apply bF | refine below_set ?_ (IsS66.ge HI226.out) | refine below_set ?_ GE218.out | refine below_set ?_ GE223.out) | exact HB.out)⟩⟩
              ·rw [if_neg c35] at H
               have c35b0 : ((wrap64 (rd l0 0)) == 3) = false := beq_eq_false_iff_ne.mpr c35
               have c35b1 : ((wrap64 (rd l0 0)) != 3) = true := bne_iff_ne.mpr c35
               (first | rw [c35b0] | (simp only [i64_w, i32_w]; rw [c35b0]) | skip)
               replace H := zO H
               obtain ⟨⟨t239, t240, t241⟩, A460, H⟩ := H
               replace H : ((impl_wire_num.f kj17 (l0.take (ji6 : Int).toNat) t240 t241).bind fun bt242 => (impl_Unpack.j3 kj17 ji6 false (wrap64 (rd l0 0)) t227 t239 bt242.1 0 0 0 (⟨#[]⟩ : ByteArray) (l0.take (ji6 : Int).toNat) bt242.2.1 bt242.2.2)) = some (r1, r2, r3, r4, r5, r6, r7, r8, r9) := H
               have A46 := zM A460
               clear A460
               replace H := zO H
               obtain ⟨⟨t242, t243, t244⟩, A470, H⟩ := H
               replace H : (impl_Unpack.j3 kj17 ji6 false (wrap64 (rd l0 0)) t227 t239 t242 0 0 0 (⟨#[]⟩ : ByteArray) (l0.take (ji6 : Int).toNat) t243 t244) = some (r1, r2, r3, r4, r5, r6, r7, r8, r9) := H
               have A47 := zM A470
               clear A470
               have H' := zM H
               clear H
               iterate 2 ((go_wp2_with (first | (go_at_call 48; (with_reducible refine (impl_wire_num.calls kj17 gb226 (l0.take (ji6 : Int).toNat) t228 t229 t239 t240 t241 w _ ?side1 ?side2 A46.out).mono ?_); (case side1 => repeat (first | (with_reducible first | exact HI226.out | apply IsS66.alloc | apply IsS66.drewN | apply IsS66.drew | apply IsS66.set_1 | apply IsS66.set_2 | refine IsS66.far ?_ NB226_218.out _ | refine IsS66.far ?_ NB226_223.out _) | exact HI226.out)); (case side2 => repeat (first | (with_reducible first | exact HB.out | apply bE | apply bD | apply bF | refine below_set ?_ (IsS66.ge HI226.out) | refine below_set ?_ GE218.out | refine below_set ?_ GE223.out) | exact HB.out)); rintro e w48 ⟨rfl, hi, hb, hk⟩; have n0_ := zM (KeepBut.blk hk (g' := gb218) (o := .cells #[.int .i64 x219000_17, .int .i64 x219001_17, .int .i64 x219002_17, .int .i64 x219003_17, .int .i64 x219004_17, .int .i64 x219005_17, .int .i64 x219006_17, .string x219007_17] 32 (0, 0)) (by (with_reducible repeat (first | refine bA ?_ _ | refine bB ?_ | refine bC ?_ _)); refine blk_far ?_ NB218_223.out _; (with_reducible repeat (first | refine bA ?_ _ | refine bB ?_ | refine bC ?_ _)); exact BK218.out) NB218_226.out (by simp)); have n1_ := zM (KeepBut.blk hk (g' := gb223) (o := .cells #[.int .i64 (wrap64 (rd l0 0)), .int .i64 t227, .int .i64 0, .int .i64 0, .int .i64 0, .int .i64 0, .int .i64 0, .string (⟨#[]⟩ : ByteArray)] 32 (0, 0)) (by (with_reducible repeat (first | refine bA ?_ _ | refine bB ?_ | refine bC ?_ _)); refine bH (cs := #[.int .i64 (wrap64 (rd l0 0)), .int .i64 0, .int .i64 0, .int .i64 0, .int .i64 0, .int .i64 0, .int .i64 0, .string (⟨#[]⟩ : ByteArray)]) ?_ 1 _ rfl; (with_reducible repeat (first | refine bA ?_ _ | refine bB ?_ | refine bC ?_ _)); exact BK223.out) NB223_226.out (by simp)); have n2_ := zM (hb); have n3_ := zM (hi); clear BK218; clear BK223; clear HB; clear HI226; have BK218 := n0_; have BK223 := n1_; have HB := n2_; have HI226 := n3_; clear n0_ n1_ n2_ n3_; (try clear hb); (try clear hk); (try clear hi); have hnb49 := NB223_218.out; have hnc49 := NB218_223.out; have hnb50 := NB223_226.out; have hnc50 := NB226_223.out; have hcz51_0 : w48.cell? ⟨gb223, 0, none⟩ = some (.int .i64 (wrap64 (rd l0 0))) := (blk_cell BK223.out 0).trans rfl; have hcz51_1 : w48.cell? ⟨gb223, 1, none⟩ = some (.int .i64 t227) := (blk_cell BK223.out 1).trans rfl; have hcz51_2 : w48.cell? ⟨gb223, 2, none⟩ = some (.int .i64 0) := (blk_cell BK223.out 2).trans rfl; have hcz51_3 : w48.cell? ⟨gb223, 3, none⟩ = some (.int .i64 0) := (blk_cell BK223.out 3).trans rfl; have hcz51_4 : w48.cell? ⟨gb223, 4, none⟩ = some (.int .i64 0) := (blk_cell BK223.out 4).trans rfl; have hcz51_5 : w48.cell? ⟨gb223, 5, none⟩ = some (.int .i64 0) := (blk_cell BK223.out 5).trans rfl; have hcz51_6 : w48.cell? ⟨gb223, 6, none⟩ = some (.int .i64 0) := (blk_cell BK223.out 6).trans rfl; have hcz51_7 : w48.cell? ⟨gb223, 7, none⟩ = some (.string (⟨#[]⟩ : ByteArray)) := (blk_cell BK223.out 7).trans rfl; have hfz51_0 := blk_frozen BK223.out 0; have hfz51_1 := blk_frozen BK223.out 1; have hfz51_2 := blk_frozen BK223.out 2; have hfz51_3 := blk_frozen BK223.out 3; have hfz51_4 := blk_frozen BK223.out 4; have hfz51_5 := blk_frozen BK223.out 5; have hfz51_6 := blk_frozen BK223.out 6; have hfz51_7 := blk_frozen BK223.out 7) | (go_at_call 48; (with_reducible refine (impl_wire_num.calls kj17 gb226 (l0.take (ji6 : Int).toNat) t240 t241 t242 t243 t244 w _ ?side1 ?side2 A47.out).mono ?_); (case side1 => repeat (first | (with_reducible first | exact HI226.out | apply IsS66.alloc | apply IsS66.drewN | apply IsS66.drew | apply IsS66.set_1 | apply IsS66.set_2 | refine IsS66.far ?_ NB226_218.out _ | refine IsS66.far ?_ NB226_223.out _) | exact HI226.out)); (case side2 => repeat (first | (with_reducible first | exact HB.out | apply bE | apply bD | apply bF | refine below_set ?_ (IsS66.ge HI226.out) | refine below_set ?_ GE218.out | refine below_set ?_ GE223.out) | exact HB.out)); rintro e w52 ⟨rfl, hi, hb, hk⟩; have n0_ := zM (KeepBut.blk hk (g' := gb218) (o := .cells #[.int .i64 x219000_17, .int .i64 x219001_17, .int .i64 x219002_17, .int .i64 x219003_17, .int .i64 x219004_17, .int .i64 x219005_17, .int .i64 x219006_17, .string x219007_17] 32 (0, 0)) (by (with_reducible repeat (first | refine bA ?_ _ | refine bB ?_ | refine bC ?_ _)); refine blk_far ?_ NB218_223.out _; (with_reducible repeat (first | refine bA ?_ _ | refine bB ?_ | refine bC ?_ _)); exact BK218.out) NB218_226.out (by simp)); have n1_ := zM (KeepBut.blk hk (g' := gb223) (o := .cells #[.int .i64 (wrap64 (rd l0 0)), .int .i64 t227, .int .i64 t239, .int .i64 0, .int .i64 0, .int .i64 0, .int .i64 0, .string (⟨#[]⟩ : ByteArray)] 32 (0, 0)) (by (with_reducible repeat (first | refine bA ?_ _ | refine bB ?_ | refine bC ?_ _)); refine bH (cs := #[.int .i64 (wrap64 (rd l0 0)), .int .i64 t227, .int .i64 0, .int .i64 0, .int .i64 0, .int .i64 0, .int .i64 0, .string (⟨#[]⟩ : ByteArray)]) ?_ 2 _ rfl; (with_reducible repeat (first | refine bA ?_ _ | refine bB ?_ | refine bC ?_ _)); exact BK223.out) NB223_226.out (by simp)); have n2_ := zM (hb); have n3_ := zM (hi); clear BK218; clear BK223; clear HB; clear HI226; have BK218 := n0_; have BK223 := n1_; have HB := n2_; have HI226 := n3_; clear n0_ n1_ n2_ n3_; (try clear hb); (try clear hk); (try clear hi); have hcz53_0 : w52.cell? ⟨gb223, 0, none⟩ = some (.int .i64 (wrap64 (rd l0 0))) := (blk_cell BK223.out 0).trans rfl; have hcz53_1 : w52.cell? ⟨gb223, 1, none⟩ = some (.int .i64 t227) := (blk_cell BK223.out 1).trans rfl; have hcz53_2 : w52.cell? ⟨gb223, 2, none⟩ = some (.int .i64 t239) := (blk_cell BK223.out 2).trans rfl; have hcz53_3 : w52.cell? ⟨gb223, 3, none⟩ = some (.int .i64 0) := (blk_cell BK223.out 3).trans rfl; have hcz53_4 : w52.cell? ⟨gb223, 4, none⟩ = some (.int .i64 0) := (blk_cell BK223.out 4).trans rfl; have hcz53_5 : w52.cell? ⟨gb223, 5, none⟩ = some (.int .i64 0) := (blk_cell BK223.out 5).trans rfl; have hcz53_6 : w52.cell? ⟨gb223, 6, none⟩ = some (.int .i64 0) := (blk_cell BK223.out 6).trans rfl; have hcz53_7 : w52.cell? ⟨gb223, 7, none⟩ = some (.string (⟨#[]⟩ : ByteArray)) := (blk_cell BK223.out 7).trans rfl; have hfz53_0 := blk_frozen BK223.out 0; have hfz53_1 := blk_frozen BK223.out 1; have hfz53_2 := blk_frozen BK223.out 2; have hfz53_3 := blk_frozen BK223.out 3; have hfz53_4 := blk_frozen BK223.out 4; have hfz53_5 := blk_frozen BK223.out 5; have hfz53_6 := blk_frozen BK223.out 6; have hfz53_7 := blk_frozen BK223.out 7))); (try go_quiet (fail)))
               go_meet
               case rel => exact ⟨_, (t239), (t242), (0), ((⟨#[]⟩ : ByteArray)), (t243), (t244), H', ⟨by have := HJ1.out; have := HJ11.out; have := HJ17.out; first | omega | exact Nat.le_refl _⟩, ⟨by (with_reducible repeat (first | refine bA ?_ _ | refine bB ?_ | refine bC ?_ _)); refine blk_far ?_ NB218_223.out _; (with_reducible repeat (first | refine bA ?_ _ | refine bB ?_ | refine bC ?_ _)); exact BK218.out⟩, ⟨by (with_reducible repeat (first | refine bA ?_ _ | refine bB ?_ | refine bC ?_ _)); refine bH (cs := #[.int .i64 (wrap64 (rd l0 0)), .int .i64 t227, .int .i64 t239, .int .i64 0, .int .i64 0, .int .i64 0, .int .i64 0, .string (⟨#[]⟩ : ByteArray)]) ?_ 3 _ rfl; (with_reducible repeat (first | refine bA ?_ _ | refine bB ?_ | refine bC ?_ _)); exact BK223.out⟩, ⟨by repeat (first | (with_reducible first | exact HI226.out | apply IsS66.alloc | apply IsS66.drewN | apply IsS66.drew | apply IsS66.set_1 | apply IsS66.set_2 | refine IsS66.far ?_ NB226_218.out _ | refine IsS66.far ?_ NB226_223.out _) | exact HI226.out)⟩, ⟨by repeat (first | (with_reducible first | exact HB.out | apply bE | apply bD | apply bF | refine below_set ?_ (IsS66.ge HI226.out) | refine below_set ?_ GE218.out | refine below_set ?_ GE223.out) | exact HB.out)⟩⟩
             case rest =>
              clear HC28
              try clear c1
              try clear c2
              try clear p2
              try clear q2
              try clear hx2
              try clear qi2
              try clear c3
              try clear c4
              try clear c4b0
              try clear c4b1
              try clear c5
              try clear p6
              try clear c7
              try clear c7b0
              try clear c8
              try clear c8b0
              try clear c9
              try clear c9b0
              try clear c10
              try clear c10b0
              try clear c10b1
              try clear c14
              try clear c14b0
              try clear c14b1
              try clear c16
              try clear c16b0
              try clear c16b1
              try clear c19
              try clear c20
              try clear p21
              try clear q21
              try clear hx21
              try clear c22
              try clear p22
              try clear q22
              try clear hx22
              try clear qi22
              try clear c23
              try clear c25
              try clear c25b0
              try clear c25b1
              try clear c26
              try clear c26b0
              try clear c26b1
              try clear c32
              try clear c33
              try clear c35
              try clear c35b0
              try clear c35b1
              try clear c40
              try clear c41
              try clear c49
              try clear c50
              try clear hcz15_0
              try clear hcz15_1
              try clear hcz15_2
              try clear hcz15_3
              try clear hcz15_4
              try clear hcz15_5
              try clear hcz15_6
              try clear hcz15_7
              try clear hcz21_0
              try clear hcz21_1
              try clear hcz21_2
              try clear hcz21_3
              try clear hcz21_4
              try clear hcz21_5
              try clear hcz21_6
              try clear hcz21_7
              try clear hcz24_0
              try clear hcz24_1
              try clear hcz24_2
              try clear hcz24_3
              try clear hcz24_4
              try clear hcz24_5
              try clear hcz24_6
              try clear hcz24_7
              try clear hcz34_0
              try clear hcz34_1
              try clear hcz34_2
              try clear hcz34_3
              try clear hcz34_4
              try clear hcz34_5
              try clear hcz34_6
              try clear hcz34_7
              try clear hcz42_0
              try clear hcz42_1
              try clear hcz42_2
              try clear hcz42_3
              try clear hcz42_4
              try clear hcz42_5
              try clear hcz42_6
              try clear hcz42_7
              try clear hcz45_0
              try clear hcz45_1
              try clear hcz45_2
              try clear hcz45_3
              try clear hcz45_4
              try clear hcz45_5
              try clear hcz45_6
              try clear hcz45_7
              try clear hcz51_0
              try clear hcz51_1
              try clear hcz51_2
              try clear hcz51_3
              try clear hcz51_4
              try clear hcz51_5
              try clear hcz51_6
              try clear hcz51_7
              try clear hcz53_0
              try clear hcz53_1
              try clear hcz53_2
              try clear hcz53_3
              try clear hcz53_4
              try clear hcz53_5
              try clear hcz53_6
              try clear hcz53_7
              try clear hcz5_0
              try clear hcz5_1
              try clear hcz5_2
              try clear hcz5_3
              try clear hcz5_4
              try clear hcz5_5
              try clear hcz5_6
              try clear hcz5_7
              try clear hfz15_0
              try clear hfz15_1
              try clear hfz15_2
              try clear hfz15_3
              try clear hfz15_4
              try clear hfz15_5
              try clear hfz15_6
              try clear hfz15_7
              try clear hfz21_0
              try clear hfz21_1
              try clear hfz21_2
              try clear hfz21_3
              try clear hfz21_4
              try clear hfz21_5
              try clear hfz21_6
              try clear hfz21_7
              try clear hfz24_0
              try clear hfz24_1
              try clear hfz24_2
              try clear hfz24_3
              try clear hfz24_4
              try clear hfz24_5
              try clear hfz24_6
              try clear hfz24_7
              try clear hfz34_0
              try clear hfz34_1
              try clear hfz34_2
              try clear hfz34_3
              try clear hfz34_4
              try clear hfz34_5
              try clear hfz34_6
              try clear hfz34_7
              try clear hfz42_0
              try clear hfz42_1
              try clear hfz42_2
              try clear hfz42_3
              try clear hfz42_4
              try clear hfz42_5
              try clear hfz42_6
              try clear hfz42_7
              try clear hfz45_0
              try clear hfz45_1
              try clear hfz45_2
              try clear hfz45_3
              try clear hfz45_4
              try clear hfz45_5
              try clear hfz45_6
              try clear hfz45_7
              try clear hfz51_0
              try clear hfz51_1
              try clear hfz51_2
              try clear hfz51_3
              try clear hfz51_4
              try clear hfz51_5
              try clear hfz51_6
              try clear hfz51_7
              try clear hfz53_0
              try clear hfz53_1
              try clear hfz53_2
              try clear hfz53_3
              try clear hfz53_4
              try clear hfz53_5
              try clear hfz53_6
              try clear hfz53_7
              try clear hfz5_0
              try clear hfz5_1
              try clear hfz5_2
              try clear hfz5_3
              try clear hfz5_4
              try clear hfz5_5
              try clear hfz5_6
              try clear hfz5_7
              try clear hx219_0
              try clear hx222_0
              try clear p2
              try clear p21
              try clear p219
              try clear p22
              try clear p222
              try clear p6
              try clear q2
              try clear q21
              try clear q219
              try clear q22
              try clear q222
              obtain ⟨kq, x224002_27, x224003_27, x224006_27, x224007_27, x227001_27, x227002_27, HA, HJ27, BK218, BK223, HI226, HB⟩ := hcut
              cases kq with
              | zero => exact absurd HA.out (by simp [impl_Unpack.j3])
              | succ kj27 =>
               have H := HA.out
               clear HA
               simp only [impl_Unpack.j3] at H
               have HC54 := zM H
               clear H
               have hnb55 := NB223_218.out
               have hnc55 := NB218_223.out
               have hnb56 := NB223_226.out
               have hnc56 := NB226_223.out
               have hcz57_0 : wc.cell? ⟨gb223, 0, none⟩ = some (.int .i64 (wrap64 (rd l0 0))) := (blk_cell BK223.out 0).trans rfl
               have hcz57_1 : wc.cell? ⟨gb223, 1, none⟩ = some (.int .i64 t227) := (blk_cell BK223.out 1).trans rfl
               have hcz57_2 : wc.cell? ⟨gb223, 2, none⟩ = some (.int .i64 x224002_27) := (blk_cell BK223.out 2).trans rfl
               have hcz57_3 : wc.cell? ⟨gb223, 3, none⟩ = some (.int .i64 x224003_27) := (blk_cell BK223.out 3).trans rfl
               have hcz57_4 : wc.cell? ⟨gb223, 4, none⟩ = some (.int .i64 0) := (blk_cell BK223.out 4).trans rfl
               have hcz57_5 : wc.cell? ⟨gb223, 5, none⟩ = some (.int .i64 0) := (blk_cell BK223.out 5).trans rfl
               have hcz57_6 : wc.cell? ⟨gb223, 6, none⟩ = some (.int .i64 x224006_27) := (blk_cell BK223.out 6).trans rfl
               have hcz57_7 : wc.cell? ⟨gb223, 7, none⟩ = some (.string x224007_27) := (blk_cell BK223.out 7).trans rfl
               have hfz57_0 := blk_frozen BK223.out 0
               have hfz57_1 := blk_frozen BK223.out 1
               have hfz57_2 := blk_frozen BK223.out 2
               have hfz57_3 := blk_frozen BK223.out 3
               have hfz57_4 := blk_frozen BK223.out 4
               have hfz57_5 := blk_frozen BK223.out 5
               have hfz57_6 := blk_frozen BK223.out 6
               have hfz57_7 := blk_frozen BK223.out 7
               iterate 2 ((try go_quiet (fail)); (go_upto_if 65 with (fail)))
               go_cut [6] (fun v6 wc => ∃ (kq : Nat) (x6_53 : Bool) (x224004_53 : Int) (x224005_53 : Int) (x227001_53 : Int) (x227002_53 : Bool), v6 = .bool x6_53 ∧ Aside0 (impl_Unpack.j4 kq ji6 x6_53 (wrap64 (rd l0 0)) t227 x224002_27 x224003_27 x224004_53 x224005_53 x224006_27 x224007_27 (l0.take (ji6 : Int).toNat) x227001_53 x227002_53 = some (r1, r2, r3, r4, r5, r6, r7, r8, r9)) ∧ Aside0 (kq ≤ kj27) ∧ Aside0 (wc.heap[gb218]? = some (.cells #[.int .i64 x219000_17, .int .i64 x219001_17, .int .i64 x219002_17, .int .i64 x219003_17, .int .i64 x219004_17, .int .i64 x219005_17, .int .i64 x219006_17, .string x219007_17] 32 (0, 0))) ∧ Aside0 (wc.heap[gb223]? = some (.cells #[.int .i64 (wrap64 (rd l0 0)), .int .i64 t227, .int .i64 x224002_27, .int .i64 x224003_27, .int .i64 x224004_53, .int .i64 x224005_53, .int .i64 x224006_27, .string x224007_27] 32 (0, 0))) ∧ Aside0 (IsS66 w wc gb226 (l0.take (ji6 : Int).toNat) x227001_53 x227002_53) ∧ Aside0 (Below w.heap.size w wc))
               case first =>
                have H := HC54.out
                clear HC54
                by_cases c58 : (wrap64 (rd l0 0)) = 2
                ·rw [if_pos c58] at H
                 have c58b0 : ((wrap64 (rd l0 0)) == 2) = true := beq_iff_eq.mpr c58
                 have c58b1 : ((wrap64 (rd l0 0)) != 2) = false := bne_eq_false_iff_eq.mpr c58
                 clear c58
                 (first | rw [c58b0] | (simp only [i64_w, i32_w]; rw [c58b0]) | skip)
                 replace H := zO H
                 obtain ⟨⟨t245, t246, t247⟩, A590, H⟩ := H
                 replace H : ((impl_wire_num.f kj27 (l0.take (ji6 : Int).toNat) t246 t247).bind fun bt248 => (if t245 > 2000000000000 then ((impl_Unfold.f t245).bind fun t251 => ((impl_Unfold.f bt248.1).bind fun t252 => (impl_Unpack.j4 kj27 ji6 true (wrap64 (rd l0 0)) t227 x224002_27 x224003_27 t251 t252 x224006_27 x224007_27 (l0.take (ji6 : Int).toNat) bt248.2.1 bt248.2.2))) else ((impl_Unfold.f t245).bind fun t253 => ((impl_Unfold.f bt248.1).bind fun t254 => (impl_Unpack.j4 kj27 ji6 (decide (bt248.1 > 2000000000000)) (wrap64 (rd l0 0)) t227 x224002_27 x224003_27 t253 t254 x224006_27 x224007_27 (l0.take (ji6 : Int).toNat) bt248.2.1 bt248.2.2))))) = some (r1, r2, r3, r4, r5, r6, r7, r8, r9) := H
                 have A59 := zM A590
                 clear A590
                 replace H := zO H
                 obtain ⟨⟨t248, t249, t250⟩, A600, H⟩ := H
                 replace H : (if t245 > 2000000000000 then ((impl_Unfold.f t245).bind fun t251 => ((impl_Unfold.f t248).bind fun t252 => (impl_Unpack.j4 kj27 ji6 true (wrap64 (rd l0 0)) t227 x224002_27 x224003_27 t251 t252 x224006_27 x224007_27 (l0.take (ji6 : Int).toNat) t249 t250))) else ((impl_Unfold.f t245).bind fun t253 => ((impl_Unfold.f t248).bind fun t254 => (impl_Unpack.j4 kj27 ji6 (decide (t248 > 2000000000000)) (wrap64 (rd l0 0)) t227 x224002_27 x224003_27 t253 t254 x224006_27 x224007_27 (l0.take (ji6 : Int).toNat) t249 t250)))) = some (r1, r2, r3, r4, r5, r6, r7, r8, r9) := H
                 have A60 := zM A600
                 clear A600
                 by_cases c61 : t245 > 2000000000000
                 ·rw [if_pos c61] at H
                  have c61b0 : decide (2000000000000 < t245) = true := decide_eq_true c61
                  clear c61
                  replace H := zO H
                  obtain ⟨t251, A620, H⟩ := H
                  replace H : ((impl_Unfold.f t248).bind fun t252 => (impl_Unpack.j4 kj27 ji6 true (wrap64 (rd l0 0)) t227 x224002_27 x224003_27 t251 t252 x224006_27 x224007_27 (l0.take (ji6 : Int).toNat) t249 t250)) = some (r1, r2, r3, r4, r5, r6, r7, r8, r9) := H
                  have A62 := zM A620
                  clear A620
                  replace H := zO H
                  obtain ⟨t252, A630, H⟩ := H
                  replace H : (impl_Unpack.j4 kj27 ji6 true (wrap64 (rd l0 0)) t227 x224002_27 x224003_27 t251 t252 x224006_27 x224007_27 (l0.take (ji6 : Int).toNat) t249 t250) = some (r1, r2, r3, r4, r5, r6, r7, r8, r9) := H
                  have A63 := zM A630
                  clear A630
                  have H' := zM H
                  clear H
                  iterate 2 ((go_wp2_with (first | (go_at_call 48; (with_reducible refine (impl_wire_num.calls kj27 gb226 (l0.take (ji6 : Int).toNat) x227001_27 x227002_27 t245 t246 t247 w _ ?side1 ?side2 A59.out).mono ?_); (case side1 => repeat (first | (with_reducible first | exact HI226.out | apply IsS66.alloc | apply IsS66.drewN | apply IsS66.drew | apply IsS66.set_1 | apply IsS66.set_2 | refine IsS66.far ?_ NB226_218.out _ | refine IsS66.far ?_ NB226_223.out _) | exact HI226.out)); (case side2 => repeat (first | (with_reducible first | exact HB.out | apply bE | apply bD | apply bF | refine below_set ?_ (IsS66.ge HI226.out) | refine below_set ?_ GE218.out | refine below_set ?_ GE223.out) | exact HB.out)); rintro e w64 ⟨rfl, hi, hb, hk⟩; have n0_ := zM (KeepBut.blk hk (g' := gb218) (o := .cells #[.int .i64 x219000_17, .int .i64 x219001_17, .int .i64 x219002_17, .int .i64 x219003_17, .int .i64 x219004_17, .int .i64 x219005_17, .int .i64 x219006_17, .string x219007_17] 32 (0, 0)) (by (with_reducible repeat (first | refine bA ?_ _ | refine bB ?_ | refine bC ?_ _)); exact BK218.out) NB218_226.out (by simp)); have n1_ := zM (KeepBut.blk hk (g' := gb223) (o := .cells #[.int .i64 (wrap64 (rd l0 0)), .int .i64 t227, .int .i64 x224002_27, .int .i64 x224003_27, .int .i64 0, .int .i64 0, .int .i64 x224006_27, .string x224007_27] 32 (0, 0)) (by (with_reducible repeat (first | refine bA ?_ _ | refine bB ?_ | refine bC ?_ _)); exact BK223.out) NB223_226.out (by simp)); have n2_ := zM (hb); have n3_ := zM (hi); clear BK218; clear BK223; clear HB; clear HI226; have BK218 := n0_; have BK223 := n1_; have HB := n2_; have HI226 := n3_; clear n0_ n1_ n2_ n3_; (try clear hb); (try clear hk); (try clear hi)) | (go_at_call 48; (with_reducible refine (impl_wire_num.calls kj27 gb226 (l0.take (ji6 : Int).toNat) t246 t247 t248 t249 t250 w _ ?side1 ?side2 A60.out).mono ?_); (case side1 => repeat (first | (with_reducible first | exact HI226.out | apply IsS66.alloc | apply IsS66.drewN | apply IsS66.drew | apply IsS66.set_1 | apply IsS66.set_2 | refine IsS66.far ?_ NB226_218.out _ | refine IsS66.far ?_ NB226_223.out _) | exact HI226.out)); (case side2 => repeat (first | (with_reducible first | exact HB.out | apply bE | apply bD | apply bF | refine below_set ?_ (IsS66.ge HI226.out) | refine below_set ?_ GE218.out | refine below_set ?_ GE223.out) | exact HB.out)); rintro e w65 ⟨rfl, hi, hb, hk⟩; have n0_ := zM (KeepBut.blk hk (g' := gb218) (o := .cells #[.int .i64 x219000_17, .int .i64 x219001_17, .int .i64 x219002_17, .int .i64 x219003_17, .int .i64 x219004_17, .int .i64 x219005_17, .int .i64 x219006_17, .string x219007_17] 32 (0, 0)) (by (with_reducible repeat (first | refine bA ?_ _ | refine bB ?_ | refine bC ?_ _)); exact BK218.out) NB218_226.out (by simp)); have n1_ := zM (KeepBut.blk hk (g' := gb223) (o := .cells #[.int .i64 (wrap64 (rd l0 0)), .int .i64 t227, .int .i64 x224002_27, .int .i64 x224003_27, .int .i64 0, .int .i64 0, .int .i64 x224006_27, .string x224007_27] 32 (0, 0)) (by (with_reducible repeat (first | refine bA ?_ _ | refine bB ?_ | refine bC ?_ _)); exact BK223.out) NB223_226.out (by simp)); have n2_ := zM (hb); have n3_ := zM (hi); clear BK218; clear BK223; clear HB; clear HI226; have BK218 := n0_; have BK223 := n1_; have HB := n2_; have HI226 := n3_; clear n0_ n1_ n2_ n3_; (try clear hb); (try clear hk); (try clear hi)) | (go_at_call 50; (with_reducible refine (impl_Unfold.calls t245 t251 _ A62.out).mono ?_); rintro e w' ⟨rfl, ⟨nd, rfl⟩⟩; (try first | exact ⟨rfl, _, World.drewN_drewN _ _ _⟩ | exact ⟨rfl, _, Eq.trans (World.drewN_drewN _ _ _) (congrArg (World.drewN _) (Nat.add_assoc _ _ _))⟩)) | (go_at_call 50; (with_reducible refine (impl_Unfold.calls t248 t252 _ A63.out).mono ?_); rintro e w' ⟨rfl, ⟨nd, rfl⟩⟩; (try first | exact ⟨rfl, _, World.drewN_drewN _ _ _⟩ | exact ⟨rfl, _, Eq.trans (World.drewN_drewN _ _ _) (congrArg (World.drewN _) (Nat.add_assoc _ _ _))⟩); have hnb66 := NB223_218.out; have hnc66 := NB218_223.out; have hnb67 := NB223_226.out; have hnc67 := NB226_223.out; have hcz68_0 : w65.cell? ⟨gb223, 0, none⟩ = some (.int .i64 (wrap64 (rd l0 0))) := (blk_cell BK223.out 0).trans rfl; have hcz68_1 : w65.cell? ⟨gb223, 1, none⟩ = some (.int .i64 t227) := (blk_cell BK223.out 1).trans rfl; have hcz68_2 : w65.cell? ⟨gb223, 2, none⟩ = some (.int .i64 x224002_27) := (blk_cell BK223.out 2).trans rfl; have hcz68_3 : w65.cell? ⟨gb223, 3, none⟩ = some (.int .i64 x224003_27) := (blk_cell BK223.out 3).trans rfl; have hcz68_4 : w65.cell? ⟨gb223, 4, none⟩ = some (.int .i64 0) := (blk_cell BK223.out 4).trans rfl; have hcz68_5 : w65.cell? ⟨gb223, 5, none⟩ = some (.int .i64 0) := (blk_cell BK223.out 5).trans rfl; have hcz68_6 : w65.cell? ⟨gb223, 6, none⟩ = some (.int .i64 x224006_27) := (blk_cell BK223.out 6).trans rfl; have hcz68_7 : w65.cell? ⟨gb223, 7, none⟩ = some (.string x224007_27) := (blk_cell BK223.out 7).trans rfl; have hfz68_0 := blk_frozen BK223.out 0; have hfz68_1 := blk_frozen BK223.out 1; have hfz68_2 := blk_frozen BK223.out 2; have hfz68_3 := blk_frozen BK223.out 3; have hfz68_4 := blk_frozen BK223.out 4; have hfz68_5 := blk_frozen BK223.out 5; have hfz68_6 := blk_frozen BK223.out 6; have hfz68_7 := blk_frozen BK223.out 7))); (try go_quiet (first | (go_at_call 50; (with_reducible refine (impl_Unfold.calls t245 t251 _ A62.out).mono ?_); rintro e w' ⟨rfl, ⟨nd, rfl⟩⟩; (try first | exact ⟨rfl, _, World.drewN_drewN _ _ _⟩ | exact ⟨rfl, _, Eq.trans (World.drewN_drewN _ _ _) (congrArg (World.drewN _) (Nat.add_assoc _ _ _))⟩)) | (go_at_call 50; (with_reducible refine (impl_Unfold.calls t248 t252 _ A63.out).mono ?_); rintro e w' ⟨rfl, ⟨nd, rfl⟩⟩; (try first | exact ⟨rfl, _, World.drewN_drewN _ _ _⟩ | exact ⟨rfl, _, Eq.trans (World.drewN_drewN _ _ _) (congrArg (World.drewN _) (Nat.add_assoc _ _ _))⟩); have hnb66 := NB223_218.out; have hnc66 := NB218_223.out; have hnb67 := NB223_226.out; have hnc67 := NB226_223.out; have hcz68_0 : w65.cell? ⟨gb223, 0, none⟩ = some (.int .i64 (wrap64 (rd l0 0))) := (blk_cell BK223.out 0).trans rfl; have hcz68_1 : w65.cell? ⟨gb223, 1, none⟩ = some (.int .i64 t227) := (blk_cell BK223.out 1).trans rfl; have hcz68_2 : w65.cell? ⟨gb223, 2, none⟩ = some (.int .i64 x224002_27) := (blk_cell BK223.out 2).trans rfl; have hcz68_3 : w65.cell? ⟨gb223, 3, none⟩ = some (.int .i64 x224003_27) := (blk_cell BK223.out 3).trans rfl; have hcz68_4 : w65.cell? ⟨gb223, 4, none⟩ = some (.int .i64 0) := (blk_cell BK223.out 4).trans rfl; have hcz68_5 : w65.cell? ⟨gb223, 5, none⟩ = some (.int .i64 0) := (blk_cell BK223.out 5).trans rfl; have hcz68_6 : w65.cell? ⟨gb223, 6, none⟩ = some (.int .i64 x224006_27) := (blk_cell BK223.out 6).trans rfl; have hcz68_7 : w65.cell? ⟨gb223, 7, none⟩ = some (.string x224007_27) := (blk_cell BK223.out 7).trans rfl; have hfz68_0 := blk_frozen BK223.out 0; have hfz68_1 := blk_frozen BK223.out 1; have hfz68_2 := blk_frozen BK223.out 2; have hfz68_3 := blk_frozen BK223.out 3; have hfz68_4 := blk_frozen BK223.out 4; have hfz68_5 := blk_frozen BK223.out 5; have hfz68_6 := blk_frozen BK223.out 6; have hfz68_7 := blk_frozen BK223.out 7))))
                  go_meet
                  case rel => exact ⟨_, (true), (t251), (t252), (t249), (t250), (by first | rfl | (simp; done) | (simp [*]; done)), H', ⟨by have := HJ1.out; have := HJ11.out; have := HJ17.out; have := HJ27.out; first | omega | exact Nat.le_refl _⟩, ⟨by (with_reducible repeat (first | refine bA ?_ _ | refine bB ?_ | refine bC ?_ _)); refine blk_far ?_ NB218_223.out _; (with_reducible repeat (first | refine bA ?_ _ | refine bB ?_ | refine bC ?_ _)); refine blk_far ?_ NB218_223.out _; (with_reducible repeat (first | refine bA ?_ _ | refine bB ?_ | refine bC ?_ _)); exact BK218.out⟩, ⟨by (with_reducible repeat (first | refine bA ?_ _ | refine bB ?_ | refine bC ?_ _)); refine bH (cs := #[.int .i64 (wrap64 (rd l0 0)), .int .i64 t227, .int .i64 x224002_27, .int .i64 x224003_27, .int .i64 t251, .int .i64 0, .int .i64 x224006_27, .string x224007_27]) ?_ 5 _ rfl; (with_reducible repeat (first | refine bA ?_ _ | refine bB ?_ | refine bC ?_ _)); refine bH (cs := #[.int .i64 (wrap64 (rd l0 0)), .int .i64 t227, .int .i64 x224002_27, .int .i64 x224003_27, .int .i64 0, .int .i64 0, .int .i64 x224006_27, .string x224007_27]) ?_ 4 _ rfl; (with_reducible repeat (first | refine bA ?_ _ | refine bB ?_ | refine bC ?_ _)); exact BK223.out⟩, ⟨by repeat (first | (with_reducible first | exact HI226.out | apply IsS66.alloc | apply IsS66.drewN | apply IsS66.drew | apply IsS66.set_1 | apply IsS66.set_2 | refine IsS66.far ?_ NB226_218.out _ | refine IsS66.far ?_ NB226_223.out _) | exact HI226.out)⟩, ⟨by repeat (first | (with_reducible first | exact HB.out | apply bE | apply bD | apply bF | refine below_set ?_ (IsS66.ge HI226.out) | refine below_set ?_ GE218.out | refine below_set ?_ GE223.out) | exact HB.out)⟩⟩
                 ·rw [if_neg c61] at H
                  have c61b0 : decide (2000000000000 < t245) = false := decide_eq_false c61
                  clear c61
                  replace H := zO H
                  obtain ⟨t253, A690, H⟩ := H
                  replace H : ((impl_Unfold.f t248).bind fun t254 => (impl_Unpack.j4 kj27 ji6 (decide (t248 > 2000000000000)) (wrap64 (rd l0 0)) t227 x224002_27 x224003_27 t253 t254 x224006_27 x224007_27 (l0.take (ji6 : Int).toNat) t249 t250)) = some (r1, r2, r3, r4, r5, r6, r7, r8, r9) := H
                  have A69 := zM A690
                  clear A690
                  replace H := zO H
                  obtain ⟨t254, A700, H⟩ := H
                  replace H : (impl_Unpack.j4 kj27 ji6 (decide (t248 > 2000000000000)) (wrap64 (rd l0 0)) t227 x224002_27 x224003_27 t253 t254 x224006_27 x224007_27 (l0.take (ji6 : Int).toNat) t249 t250) = some (r1, r2, r3, r4, r5, r6, r7, r8, r9) := H
                  have A70 := zM A700
                  clear A700
                  have H' := zM H
                  clear H
                  iterate 2 ((go_wp2_with (first | (go_at_call 48; (with_reducible refine (impl_wire_num.calls kj27 gb226 (l0.take (ji6 : Int).toNat) x227001_27 x227002_27 t245 t246 t247 w _ ?side1 ?side2 A59.out).mono ?_); (case side1 => repeat (first | (with_reducible first | exact HI226.out | apply IsS66.alloc | apply IsS66.drewN | apply IsS66.drew | apply IsS66.set_1 | apply IsS66.set_2 | refine IsS66.far ?_ NB226_218.out _ | refine IsS66.far ?_ NB226_223.out _) | exact HI226.out)); (case side2 => repeat (first | (with_reducible first | exact HB.out | apply bE | apply bD | apply bF | refine below_set ?_ (IsS66.ge HI226.out) | refine below_set ?_ GE218.out | refine below_set ?_ GE223.out) | exact HB.out)); rintro e w71 ⟨rfl, hi, hb, hk⟩; have n0_ := zM (KeepBut.blk hk (g' := gb218) (o := .cells #[.int .i64 x219000_17, .int .i64 x219001_17, .int .i64 x219002_17, .int .i64 x219003_17, .int .i64 x219004_17, .int .i64 x219005_17, .int .i64 x219006_17, .string x219007_17] 32 (0, 0)) (by (with_reducible repeat (first | refine bA ?_ _ | refine bB ?_ | refine bC ?_ _)); exact BK218.out) NB218_226.out (by simp)); have n1_ := zM (KeepBut.blk hk (g' := gb223) (o := .cells #[.int .i64 (wrap64 (rd l0 0)), .int .i64 t227, .int .i64 x224002_27, .int .i64 x224003_27, .int .i64 0, .int .i64 0, .int .i64 x224006_27, .string x224007_27] 32 (0, 0)) (by (with_reducible repeat (first | refine bA ?_ _ | refine bB ?_ | refine bC ?_ _)); exact BK223.out) NB223_226.out (by simp)); have n2_ := zM (hb); have n3_ := zM (hi); clear BK218; clear BK223; clear HB; clear HI226; have BK218 := n0_; have BK223 := n1_; have HB := n2_; have HI226 := n3_; clear n0_ n1_ n2_ n3_; (try clear hb); (try clear hk); (try clear hi)) | (go_at_call 48; (with_reducible refine (impl_wire_num.calls kj27 gb226 (l0.take (ji6 : Int).toNat) t246 t247 t248 t249 t250 w _ ?side1 ?side2 A60.out).mono ?_); (case side1 => repeat (first | (with_reducible first | exact HI226.out | apply IsS66.alloc | apply IsS66.drewN | apply IsS66.drew | apply IsS66.set_1 | apply IsS66.set_2 | refine IsS66.far ?_ NB226_218.out _ | refine IsS66.far ?_ NB226_223.out _) | exact HI226.out)); (case side2 => repeat (first | (with_reducible first | exact HB.out | apply bE | apply bD | apply bF | refine below_set ?_ (IsS66.ge HI226.out) | refine below_set ?_ GE218.out | refine below_set ?_ GE223.out) | exact HB.out)); rintro e w72 ⟨rfl, hi, hb, hk⟩; have n0_ := zM (KeepBut.blk hk (g' := gb218) (o := .cells #[.int .i64 x219000_17, .int .i64 x219001_17, .int .i64 x219002_17, .int .i64 x219003_17, .int .i64 x219004_17, .int .i64 x219005_17, .int .i64 x219006_17, .string x219007_17] 32 (0, 0)) (by (with_reducible repeat (first | refine bA ?_ _ | refine bB ?_ | refine bC ?_ _)); exact BK218.out) NB218_226.out (by simp)); have n1_ := zM (KeepBut.blk hk (g' := gb223) (o := .cells #[.int .i64 (wrap64 (rd l0 0)), .int .i64 t227, .int .i64 x224002_27, .int .i64 x224003_27, .int .i64 0, .int .i64 0, .int .i64 x224006_27, .string x224007_27] 32 (0, 0)) (by (with_reducible repeat (first | refine bA ?_ _ | refine bB ?_ | refine bC ?_ _)); exact BK223.out) NB223_226.out (by simp)); have n2_ := zM (hb); have n3_ := zM (hi); clear BK218; clear BK223; clear HB; clear HI226; have BK218 := n0_; have BK223 := n1_; have HB := n2_; have HI226 := n3_; clear n0_ n1_ n2_ n3_; (try clear hb); (try clear hk); (try clear hi)) | (go_at_call 50; (with_reducible refine (impl_Unfold.calls t245 t253 _ A69.out).mono ?_); rintro e w' ⟨rfl, ⟨nd, rfl⟩⟩; (try first | exact ⟨rfl, _, World.drewN_drewN _ _ _⟩ | exact ⟨rfl, _, Eq.trans (World.drewN_drewN _ _ _) (congrArg (World.drewN _) (Nat.add_assoc _ _ _))⟩)) | (go_at_call 50; (with_reducible refine (impl_Unfold.calls t248 t254 _ A70.out).mono ?_); rintro e w' ⟨rfl, ⟨nd, rfl⟩⟩; (try first | exact ⟨rfl, _, World.drewN_drewN _ _ _⟩ | exact ⟨rfl, _, Eq.trans (World.drewN_drewN _ _ _) (congrArg (World.drewN _) (Nat.add_assoc _ _ _))⟩); have hnb73 := NB223_218.out; have hnc73 := NB218_223.out; have hnb74 := NB223_226.out; have hnc74 := NB226_223.out; have hcz75_0 : w72.cell? ⟨gb223, 0, none⟩ = some (.int .i64 (wrap64 (rd l0 0))) := (blk_cell BK223.out 0).trans rfl; have hcz75_1 : w72.cell? ⟨gb223, 1, none⟩ = some (.int .i64 t227) := (blk_cell BK223.out 1).trans rfl; have hcz75_2 : w72.cell? ⟨gb223, 2, none⟩ = some (.int .i64 x224002_27) := (blk_cell BK223.out 2).trans rfl; have hcz75_3 : w72.cell? ⟨gb223, 3, none⟩ = some (.int .i64 x224003_27) := (blk_cell BK223.out 3).trans rfl; have hcz75_4 : w72.cell? ⟨gb223, 4, none⟩ = some (.int .i64 0) := (blk_cell BK223.out 4).trans rfl; have hcz75_5 : w72.cell? ⟨gb223, 5, none⟩ = some (.int .i64 0) := (blk_cell BK223.out 5).trans rfl; have hcz75_6 : w72.cell? ⟨gb223, 6, none⟩ = some (.int .i64 x224006_27) := (blk_cell BK223.out 6).trans rfl; have hcz75_7 : w72.cell? ⟨gb223, 7, none⟩ = some (.string x224007_27) := (blk_cell BK223.out 7).trans rfl; have hfz75_0 := blk_frozen BK223.out 0; have hfz75_1 := blk_frozen BK223.out 1; have hfz75_2 := blk_frozen BK223.out 2; have hfz75_3 := blk_frozen BK223.out 3; have hfz75_4 := blk_frozen BK223.out 4; have hfz75_5 := blk_frozen BK223.out 5; have hfz75_6 := blk_frozen BK223.out 6; have hfz75_7 := blk_frozen BK223.out 7))); (try go_quiet (first | (go_at_call 50; (with_reducible refine (impl_Unfold.calls t245 t253 _ A69.out).mono ?_); rintro e w' ⟨rfl, ⟨nd, rfl⟩⟩; (try first | exact ⟨rfl, _, World.drewN_drewN _ _ _⟩ | exact ⟨rfl, _, Eq.trans (World.drewN_drewN _ _ _) (congrArg (World.drewN _) (Nat.add_assoc _ _ _))⟩)) | (go_at_call 50; (with_reducible refine (impl_Unfold.calls t248 t254 _ A70.out).mono ?_); rintro e w' ⟨rfl, ⟨nd, rfl⟩⟩; (try first | exact ⟨rfl, _, World.drewN_drewN _ _ _⟩ | exact ⟨rfl, _, Eq.trans (World.drewN_drewN _ _ _) (congrArg (World.drewN _) (Nat.add_assoc _ _ _))⟩); have hnb73 := NB223_218.out; have hnc73 := NB218_223.out; have hnb74 := NB223_226.out; have hnc74 := NB226_223.out; have hcz75_0 : w72.cell? ⟨gb223, 0, none⟩ = some (.int .i64 (wrap64 (rd l0 0))) := (blk_cell BK223.out 0).trans rfl; have hcz75_1 : w72.cell? ⟨gb223, 1, none⟩ = some (.int .i64 t227) := (blk_cell BK223.out 1).trans rfl; have hcz75_2 : w72.cell? ⟨gb223, 2, none⟩ = some (.int .i64 x224002_27) := (blk_cell BK223.out 2).trans rfl; have hcz75_3 : w72.cell? ⟨gb223, 3, none⟩ = some (.int .i64 x224003_27) := (blk_cell BK223.out 3).trans rfl; have hcz75_4 : w72.cell? ⟨gb223, 4, none⟩ = some (.int .i64 0) := (blk_cell BK223.out 4).trans rfl; have hcz75_5 : w72.cell? ⟨gb223, 5, none⟩ = some (.int .i64 0) := (blk_cell BK223.out 5).trans rfl; have hcz75_6 : w72.cell? ⟨gb223, 6, none⟩ = some (.int .i64 x224006_27) := (blk_cell BK223.out 6).trans rfl; have hcz75_7 : w72.cell? ⟨gb223, 7, none⟩ = some (.string x224007_27) := (blk_cell BK223.out 7).trans rfl; have hfz75_0 := blk_frozen BK223.out 0; have hfz75_1 := blk_frozen BK223.out 1; have hfz75_2 := blk_frozen BK223.out 2; have hfz75_3 := blk_frozen BK223.out 3; have hfz75_4 := blk_frozen BK223.out 4; have hfz75_5 := blk_frozen BK223.out 5; have hfz75_6 := blk_frozen BK223.out 6; have hfz75_7 := blk_frozen BK223.out 7))))
                  go_meet
                  case rel => exact ⟨_, (decide (t248 > 2000000000000)), (t253), (t254), (t249), (t250), (by first | rfl | (simp; done) | (simp [*]; done)), H', ⟨by have := HJ1.out; have := HJ11.out; have := HJ17.out; have := HJ27.out; first | omega | exact Nat.le_refl _⟩, ⟨by (with_reducible repeat (first | refine bA ?_ _ | refine bB ?_ | refine bC ?_ _)); refine blk_far ?_ NB218_223.out _; (with_reducible repeat (first | refine bA ?_ _ | refine bB ?_ | refine bC ?_ _)); refine blk_far ?_ NB218_223.out _; (with_reducible repeat (first | refine bA ?_ _ | refine bB ?_ | refine bC ?_ _)); exact BK218.out⟩, ⟨by (with_reducible repeat (first | refine bA ?_ _ | refine bB ?_ | refine bC ?_ _)); refine bH (cs := #[.int .i64 (wrap64 (rd l0 0)), .int .i64 t227, .int .i64 x224002_27, .int .i64 x224003_27, .int .i64 t253, .int .i64 0, .int .i64 x224006_27, .string x224007_27]) ?_ 5 _ rfl; (with_reducible repeat (first | refine bA ?_ _ | refine bB ?_ | refine bC ?_ _)); refine bH (cs := #[.int .i64 (wrap64 (rd l0 0)), .int .i64 t227, .int .i64 x224002_27, .int .i64 x224003_27, .int .i64 0, .int .i64 0, .int .i64 x224006_27, .string x224007_27]) ?_ 4 _ rfl; (with_reducible repeat (first | refine bA ?_ _ | refine bB ?_ | refine bC ?_ _)); exact BK223.out⟩, ⟨by repeat (first | (with_reducible first | exact HI226.out | apply IsS66.alloc | apply IsS66.drewN | apply IsS66.drew | apply IsS66.set_1 | apply IsS66.set_2 | refine IsS66.far ?_ NB226_218.out _ | refine IsS66.far ?_ NB226_223.out _) | exact HI226.out)⟩, ⟨by repeat (first | (with_reducible first | exact HB.out | apply bE | apply bD | apply bF | refine below_set ?_ (IsS66.ge HI226.out) | refine below_set ?_ GE218.out | refine below_set ?_ GE223.out) | exact HB.out)⟩⟩
                ·rw [if_neg c58] at H
                 have c58b0 : ((wrap64 (rd l0 0)) == 2) = false := beq_eq_false_iff_ne.mpr c58
                 have c58b1 : ((wrap64 (rd l0 0)) != 2) = true := bne_iff_ne.mpr c58
                 (first | rw [c58b0] | (simp only [i64_w, i32_w]; rw [c58b0]) | skip)
                 have H' := zM H
                 clear H
                 go_wp2
                 repeat (go_quiet (fail); try go_wp2)
                 go_meet
                 case rel => exact ⟨_, (false), (0), (0), (x227001_27), (x227002_27), (by first | rfl | (simp; done) | (simp [*]; done)), H', ⟨by have := HJ1.out; have := HJ11.out; have := HJ17.out; have := HJ27.out; first | omega | exact Nat.le_refl _⟩, ⟨by (with_reducible repeat (first | refine bA ?_ _ | refine bB ?_ | refine bC ?_ _)); exact BK218.out⟩, ⟨by (with_reducible repeat (first | refine bA ?_ _ | refine bB ?_ | refine bC ?_ _)); exact BK223.out⟩, ⟨by repeat (first | (with_reducible first | exact HI226.out | apply IsS66.alloc | apply IsS66.drewN | apply IsS66.drew | apply IsS66.set_1 | apply IsS66.set_2 | refine IsS66.far ?_ NB226_218.out _ | refine IsS66.far ?_ NB226_223.out _) | exact HI226.out)⟩, ⟨by repeat (first | (with_reducible first | exact HB.out | apply bE | apply bD | apply bF | refine below_set ?_ (IsS66.ge HI226.out) | refine below_set ?_ GE218.out | refine below_set ?_ GE223.out) | exact HB.out)⟩⟩
               case rest =>
                clear HC54
                try clear c1
                try clear c2
                try clear p2
                try clear q2
                try clear hx2
                try clear qi2
                try clear c3
                try clear c4
                try clear c4b0
                try clear c4b1
                try clear c5
                try clear c6
                try clear p6
                try clear c7
                try clear c7b0
                try clear c8
                try clear c8b0
                try clear c9
                try clear c9b0
                try clear c10
                try clear c10b0
                try clear c10b1
                try clear c14
                try clear c14b0
                try clear c14b1
                try clear c16
                try clear c16b0
                try clear c16b1
                try clear c19
                try clear c20
                try clear p21
                try clear q21
                try clear hx21
                try clear c22
                try clear p22
                try clear q22
                try clear hx22
                try clear qi22
                try clear c23
                try clear c25
                try clear c25b0
                try clear c25b1
                try clear c26
                try clear c26b0
                try clear c26b1
                try clear c32
                try clear c33
                try clear c35
                try clear c35b0
                try clear c35b1
                try clear c40
                try clear c41
                try clear c49
                try clear c50
                try clear c55
                try clear c56
                try clear c58
                try clear c58b0
                try clear c58b1
                try clear c61
                try clear c61b0
                try clear p64
                try clear c66
                try clear c67
                try clear c73
                try clear c74
                try clear hcz15_0
                try clear hcz15_1
                try clear hcz15_2
                try clear hcz15_3
                try clear hcz15_4
                try clear hcz15_5
                try clear hcz15_6
                try clear hcz15_7
                try clear hcz21_0
                try clear hcz21_1
                try clear hcz21_2
                try clear hcz21_3
                try clear hcz21_4
                try clear hcz21_5
                try clear hcz21_6
                try clear hcz21_7
                try clear hcz24_0
                try clear hcz24_1
                try clear hcz24_2
                try clear hcz24_3
                try clear hcz24_4
                try clear hcz24_5
                try clear hcz24_6
                try clear hcz24_7
                try clear hcz34_0
                try clear hcz34_1
                try clear hcz34_2
                try clear hcz34_3
                try clear hcz34_4
                try clear hcz34_5
                try clear hcz34_6
                try clear hcz34_7
                try clear hcz42_0
                try clear hcz42_1
                try clear hcz42_2
                try clear hcz42_3
                try clear hcz42_4
                try clear hcz42_5
                try clear hcz42_6
                try clear hcz42_7
                try clear hcz45_0
                try clear hcz45_1
                try clear hcz45_2
                try clear hcz45_3
                try clear hcz45_4
                try clear hcz45_5
                try clear hcz45_6
                try clear hcz45_7
                try clear hcz51_0
                try clear hcz51_1
                try clear hcz51_2
                try clear hcz51_3
                try clear hcz51_4
                try clear hcz51_5
                try clear hcz51_6
                try clear hcz51_7
                try clear hcz53_0
                try clear hcz53_1
                try clear hcz53_2
                try clear hcz53_3
                try clear hcz53_4
                try clear hcz53_5
                try clear hcz53_6
                try clear hcz53_7
                try clear hcz57_0
                try clear hcz57_1
                try clear hcz57_2
                try clear hcz57_3
                try clear hcz57_4
                try clear hcz57_5
                try clear hcz57_6
                try clear hcz57_7
                try clear hcz5_0
                try clear hcz5_1
                try clear hcz5_2
                try clear hcz5_3
                try clear hcz5_4
                try clear hcz5_5
                try clear hcz5_6
                try clear hcz5_7
                try clear hcz68_0
                try clear hcz68_1
                try clear hcz68_2
                try clear hcz68_3
                try clear hcz68_4
                try clear hcz68_5
                try clear hcz68_6
                try clear hcz68_7
                try clear hcz75_0
                try clear hcz75_1
                try clear hcz75_2
                try clear hcz75_3
                try clear hcz75_4
                try clear hcz75_5
                try clear hcz75_6
                try clear hcz75_7
                try clear hfz15_0
                try clear hfz15_1
                try clear hfz15_2
                try clear hfz15_3
                try clear hfz15_4
                try clear hfz15_5
                try clear hfz15_6
                try clear hfz15_7
                try clear hfz21_0
                try clear hfz21_1
                try clear hfz21_2
                try clear hfz21_3
                try clear hfz21_4
                try clear hfz21_5
                try clear hfz21_6
                try clear hfz21_7
                try clear hfz24_0
                try clear hfz24_1
                try clear hfz24_2
                try clear hfz24_3
                try clear hfz24_4
                try clear hfz24_5
                try clear hfz24_6
                try clear hfz24_7
                try clear hfz34_0
                try clear hfz34_1
                try clear hfz34_2
                try clear hfz34_3
                try clear hfz34_4
                try clear hfz34_5
                try clear hfz34_6
                try clear hfz34_7
                try clear hfz42_0
                try clear hfz42_1
                try clear hfz42_2
                try clear hfz42_3
                try clear hfz42_4
                try clear hfz42_5
                try clear hfz42_6
                try clear hfz42_7
                try clear hfz45_0
                try clear hfz45_1
                try clear hfz45_2
                try clear hfz45_3
                try clear hfz45_4
                try clear hfz45_5
                try clear hfz45_6
                try clear hfz45_7
                try clear hfz51_0
                try clear hfz51_1
                try clear hfz51_2
                try clear hfz51_3
                try clear hfz51_4
                try clear hfz51_5
                try clear hfz51_6
                try clear hfz51_7
                try clear hfz53_0
                try clear hfz53_1
                try clear hfz53_2
                try clear hfz53_3
                try clear hfz53_4
                try clear hfz53_5
                try clear hfz53_6
                try clear hfz53_7
                try clear hfz57_0
                try clear hfz57_1
                try clear hfz57_2
                try clear hfz57_3
                try clear hfz57_4
                try clear hfz57_5
                try clear hfz57_6
                try clear hfz57_7
                try clear hfz5_0
                try clear hfz5_1
                try clear hfz5_2
                try clear hfz5_3
                try clear hfz5_4
                try clear hfz5_5
                try clear hfz5_6
                try clear hfz5_7
                try clear hfz68_0
                try clear hfz68_1
                try clear hfz68_2
                try clear hfz68_3
                try clear hfz68_4
                try clear hfz68_5
                try clear hfz68_6
                try clear hfz68_7
                try clear hfz75_0
                try clear hfz75_1
                try clear hfz75_2
                try clear hfz75_3
                try clear hfz75_4
                try clear hfz75_5
                try clear hfz75_6
                try clear hfz75_7
                try clear hx219_0
                try clear hx222_0
                try clear p2
                try clear p21
                try clear p219
                try clear p22
                try clear p222
                try clear p6
                try clear q2
                try clear q21
                try clear q219
                try clear q22
                try clear q222
                obtain ⟨kq, x6_53, x224004_53, x224005_53, x227001_53, x227002_53, rfl, HA, HJ53, BK218, BK223, HI226, HB⟩ := hcut
                cases kq with
                | zero => exact absurd HA.out (by simp [impl_Unpack.j4])
                | succ kj53 =>
                 have H := HA.out
                 clear HA
                 simp only [impl_Unpack.j4] at H
                 by_cases c76 : x227002_53 = true
                 ·subst c76
                  have H1 : (some (0, 0, 0, 0, 0, 0, 0, (⟨#[]⟩ : ByteArray), 4)) = some (r1, r2, r3, r4, r5, r6, r7, r8, r9) := by rw [if_pos rfl] at H; exact H
                  clear H
                  have H := H1
                  clear H1
                  simp only [zI, zJ] at H
                  obtain ⟨rfl, rfl, rfl, rfl, rfl, rfl, rfl, rfl, rfl⟩ := H
                  obtain ⟨ASz77_0, cSz77_0, HGz77, hgz77, HSz77_0⟩ := HI226.out
                  obtain ⟨HSz77_0, HLz77_0⟩ := HSz77_0
                  have hcz77_0 := cellS66_0 HGz77
                  have hcz77_1 := cellS66_1 HGz77
                  have hcz77_2 := cellS66_2 HGz77
                  have hfz77_1 := blk_frozen HGz77 1
                  have hfz77_2 := blk_frozen HGz77 2
                  clear HGz77 hgz77
                  have hnb78 := NB218_223.out
                  have hnc78 := NB223_218.out
                  have hnb79 := NB218_226.out
                  have hnc79 := NB226_218.out
                  have hcz80_0 : wc.cell? ⟨gb218, 0, none⟩ = some (.int .i64 x219000_17) := (blk_cell BK218.out 0).trans rfl
                  have hcz80_1 : wc.cell? ⟨gb218, 1, none⟩ = some (.int .i64 x219001_17) := (blk_cell BK218.out 1).trans rfl
                  have hcz80_2 : wc.cell? ⟨gb218, 2, none⟩ = some (.int .i64 x219002_17) := (blk_cell BK218.out 2).trans rfl
                  have hcz80_3 : wc.cell? ⟨gb218, 3, none⟩ = some (.int .i64 x219003_17) := (blk_cell BK218.out 3).trans rfl
                  have hcz80_4 : wc.cell? ⟨gb218, 4, none⟩ = some (.int .i64 x219004_17) := (blk_cell BK218.out 4).trans rfl
                  have hcz80_5 : wc.cell? ⟨gb218, 5, none⟩ = some (.int .i64 x219005_17) := (blk_cell BK218.out 5).trans rfl
                  have hcz80_6 : wc.cell? ⟨gb218, 6, none⟩ = some (.int .i64 x219006_17) := (blk_cell BK218.out 6).trans rfl
                  have hcz80_7 : wc.cell? ⟨gb218, 7, none⟩ = some (.string x219007_17) := (blk_cell BK218.out 7).trans rfl
                  have hfz80_0 := blk_frozen BK218.out 0
                  have hfz80_1 := blk_frozen BK218.out 1
                  have hfz80_2 := blk_frozen BK218.out 2
                  have hfz80_3 := blk_frozen BK218.out 3
                  have hfz80_4 := blk_frozen BK218.out 4
                  have hfz80_5 := blk_frozen BK218.out 5
                  have hfz80_6 := blk_frozen BK218.out 6
                  have hfz80_7 := blk_frozen BK218.out 7
                  go_wp2
                  repeat (go_quiet (fail); try go_wp2)
                  refine bodyPost_ret (results_ct rfl _ _ gb218 32 #[.int .i64 0, .int .i64 0, .int .i64 0, .int .i64 0, .int .i64 0, .int .i64 0, .int .i64 0, .string (⟨#[]⟩ : ByteArray)] (0, 0) _ rfl (by (with_reducible repeat (first | refine bA ?_ _ | refine bB ?_ | refine bC ?_ _)); refine bH (cs := #[.int .i64 0, .int .i64 0, .int .i64 0, .int .i64 0, .int .i64 0, .int .i64 0, .int .i64 0, .string x219007_17]) ?_ 7 _ rfl; (with_reducible repeat (first | refine bA ?_ _ | refine bB ?_ | refine bC ?_ _)); refine bH (cs := #[.int .i64 0, .int .i64 0, .int .i64 0, .int .i64 0, .int .i64 0, .int .i64 0, .int .i64 x219006_17, .string x219007_17]) ?_ 6 _ rfl; (with_reducible repeat (first | refine bA ?_ _ | refine bB ?_ | refine bC ?_ _)); refine bH (cs := #[.int .i64 0, .int .i64 0, .int .i64 0, .int .i64 0, .int .i64 0, .int .i64 x219005_17, .int .i64 x219006_17, .string x219007_17]) ?_ 5 _ rfl; (with_reducible repeat (first | refine bA ?_ _ | refine bB ?_ | refine bC ?_ _)); refine bH (cs := #[.int .i64 0, .int .i64 0, .int .i64 0, .int .i64 0, .int .i64 x219004_17, .int .i64 x219005_17, .int .i64 x219006_17, .string x219007_17]) ?_ 4 _ rfl; (with_reducible repeat (first | refine bA ?_ _ | refine bB ?_ | refine bC ?_ _)); refine bH (cs := #[.int .i64 0, .int .i64 0, .int .i64 0, .int .i64 x219003_17, .int .i64 x219004_17, .int .i64 x219005_17, .int .i64 x219006_17, .string x219007_17]) ?_ 3 _ rfl; (with_reducible repeat (first | refine bA ?_ _ | refine bB ?_ | refine bC ?_ _)); refine bH (cs := #[.int .i64 0, .int .i64 0, .int .i64 x219002_17, .int .i64 x219003_17, .int .i64 x219004_17, .int .i64 x219005_17, .int .i64 x219006_17, .string x219007_17]) ?_ 2 _ rfl; (with_reducible repeat (first | refine bA ?_ _ | refine bB ?_ | refine bC ?_ _)); refine bH (cs := #[.int .i64 0, .int .i64 x219001_17, .int .i64 x219002_17, .int .i64 x219003_17, .int .i64 x219004_17, .int .i64 x219005_17, .int .i64 x219006_17, .string x219007_17]) ?_ 1 _ rfl; (with_reducible repeat (first | refine bA ?_ _ | refine bB ?_ | refine bC ?_ _)); refine bH (cs := #[.int .i64 x219000_17, .int .i64 x219001_17, .int .i64 x219002_17, .int .i64 x219003_17, .int .i64 x219004_17, .int .i64 x219005_17, .int .i64 x219006_17, .string x219007_17]) ?_ 0 _ rfl; (with_reducible repeat (first | refine bA ?_ _ | refine bB ?_ | refine bC ?_ _)); exact BK218.out) Try.underlying32 rfl (by kernel_rfl)) rfl ?_
                  exact ⟨by first | rfl | (simp only [← hji6]; first | rfl | (simp [errW_none, errW_some] <;> rfl)) | (simp [*, errW_none, errW_some] <;> rfl), by repeat (first | (with_reducible first | exact HB.out | apply bE | apply bD | apply bF | refine below_set ?_ (IsS66.ge HI226.out) | refine below_set ?_ GE218.out | refine below_set ?_ GE223.out) | exact HB.out)⟩
                 ·replace c76 := Bool.eq_false_iff.mpr c76
                  subst c76
                  have H1 : (if x227001_53 < ji6 then (some (0, 0, 0, 0, 0, 0, 0, (⟨#[]⟩ : ByteArray), 6)) else (if x6_53 = true then (some (0, 0, 0, 0, 0, 0, 0, (⟨#[]⟩ : ByteArray), 5)) else ((impl_MsgOk.f (wrap64 (rd l0 0)) t227 x224002_27 x224003_27 x224004_53 x224005_53 x224006_27 x224007_27).bind fun t255 => (if t255 = true then (some ((wrap64 (rd l0 0)), t227, x224002_27, x224003_27, x224004_53, x224005_53, x224006_27, x224007_27, 0)) else (some (0, 0, 0, 0, 0, 0, 0, (⟨#[]⟩ : ByteArray), 5)))))) = some (r1, r2, r3, r4, r5, r6, r7, r8, r9) := by rw [if_neg (show ¬ (false = true) by decide)] at H; exact H
                  clear H
                  have H := H1
                  clear H1
                  by_cases c81 : x227001_53 < ji6
                  ·rw [if_pos c81] at H
                   have c81b0 : decide (x227001_53 < ji6) = true := decide_eq_true c81
                   clear c81
                   simp only [zI, zJ] at H
                   obtain ⟨rfl, rfl, rfl, rfl, rfl, rfl, rfl, rfl, rfl⟩ := H
                   obtain ⟨ASz82_0, cSz82_0, HGz82, hgz82, HSz82_0⟩ := HI226.out
                   obtain ⟨HSz82_0, HLz82_0⟩ := HSz82_0
                   have hcz82_0 := cellS66_0 HGz82
                   have hcz82_1 := cellS66_1 HGz82
                   have hcz82_2 := cellS66_2 HGz82
                   have hfz82_1 := blk_frozen HGz82 1
                   have hfz82_2 := blk_frozen HGz82 2
                   clear HGz82 hgz82
                   have hnb83 := NB218_223.out
                   have hnc83 := NB223_218.out
                   have hnb84 := NB218_226.out
                   have hnc84 := NB226_218.out
                   have hcz85_0 : wc.cell? ⟨gb218, 0, none⟩ = some (.int .i64 x219000_17) := (blk_cell BK218.out 0).trans rfl
                   have hcz85_1 : wc.cell? ⟨gb218, 1, none⟩ = some (.int .i64 x219001_17) := (blk_cell BK218.out 1).trans rfl
                   have hcz85_2 : wc.cell? ⟨gb218, 2, none⟩ = some (.int .i64 x219002_17) := (blk_cell BK218.out 2).trans rfl
                   have hcz85_3 : wc.cell? ⟨gb218, 3, none⟩ = some (.int .i64 x219003_17) := (blk_cell BK218.out 3).trans rfl
                   have hcz85_4 : wc.cell? ⟨gb218, 4, none⟩ = some (.int .i64 x219004_17) := (blk_cell BK218.out 4).trans rfl
                   have hcz85_5 : wc.cell? ⟨gb218, 5, none⟩ = some (.int .i64 x219005_17) := (blk_cell BK218.out 5).trans rfl
                   have hcz85_6 : wc.cell? ⟨gb218, 6, none⟩ = some (.int .i64 x219006_17) := (blk_cell BK218.out 6).trans rfl
                   have hcz85_7 : wc.cell? ⟨gb218, 7, none⟩ = some (.string x219007_17) := (blk_cell BK218.out 7).trans rfl
                   have hfz85_0 := blk_frozen BK218.out 0
                   have hfz85_1 := blk_frozen BK218.out 1
                   have hfz85_2 := blk_frozen BK218.out 2
                   have hfz85_3 := blk_frozen BK218.out 3
                   have hfz85_4 := blk_frozen BK218.out 4
                   have hfz85_5 := blk_frozen BK218.out 5
                   have hfz85_6 := blk_frozen BK218.out 6
                   have hfz85_7 := blk_frozen BK218.out 7
                   go_wp2
                   repeat (go_quiet (fail); try go_wp2)
                   refine bodyPost_ret (results_ct rfl _ _ gb218 32 #[.int .i64 0, .int .i64 0, .int .i64 0, .int .i64 0, .int .i64 0, .int .i64 0, .int .i64 0, .string (⟨#[]⟩ : ByteArray)] (0, 0) _ rfl (by (with_reducible repeat (first | refine bA ?_ _ | refine bB ?_ | refine bC ?_ _)); refine bH (cs := #[.int .i64 0, .int .i64 0, .int .i64 0, .int .i64 0, .int .i64 0, .int .i64 0, .int .i64 0, .string x219007_17]) ?_ 7 _ rfl; (with_reducible repeat (first | refine bA ?_ _ | refine bB ?_ | refine bC ?_ _)); refine bH (cs := #[.int .i64 0, .int .i64 0, .int .i64 0, .int .i64 0, .int .i64 0, .int .i64 0, .int .i64 x219006_17, .string x219007_17]) ?_ 6 _ rfl; (with_reducible repeat (first | refine bA ?_ _ | refine bB ?_ | refine bC ?_ _)); refine bH (cs := #[.int .i64 0, .int .i64 0, .int .i64 0, .int .i64 0, .int .i64 0, .int .i64 x219005_17, .int .i64 x219006_17, .string x219007_17]) ?_ 5 _ rfl; (with_reducible repeat (first | refine bA ?_ _ | refine bB ?_ | refine bC ?_ _)); refine bH (cs := #[.int .i64 0, .int .i64 0, .int .i64 0, .int .i64 0, .int .i64 x219004_17, .int .i64 x219005_17, .int .i64 x219006_17, .string x219007_17]) ?_ 4 _ rfl; (with_reducible repeat (first | refine bA ?_ _ | refine bB ?_ | refine bC ?_ _)); refine bH (cs := #[.int .i64 0, .int .i64 0, .int .i64 0, .int .i64 x219003_17, .int .i64 x219004_17, .int .i64 x219005_17, .int .i64 x219006_17, .string x219007_17]) ?_ 3 _ rfl; (with_reducible repeat (first | refine bA ?_ _ | refine bB ?_ | refine bC ?_ _)); refine bH (cs := #[.int .i64 0, .int .i64 0, .int .i64 x219002_17, .int .i64 x219003_17, .int .i64 x219004_17, .int .i64 x219005_17, .int .i64 x219006_17, .string x219007_17]) ?_ 2 _ rfl; (with_reducible repeat (first | refine bA ?_ _ | refine bB ?_ | refine bC ?_ _)); refine bH (cs := #[.int .i64 0, .int .i64 x219001_17, .int .i64 x219002_17, .int .i64 x219003_17, .int .i64 x219004_17, .int .i64 x219005_17, .int .i64 x219006_17, .string x219007_17]) ?_ 1 _ rfl; (with_reducible repeat (first | refine bA ?_ _ | refine bB ?_ | refine bC ?_ _)); refine bH (cs := #[.int .i64 x219000_17, .int .i64 x219001_17, .int .i64 x219002_17, .int .i64 x219003_17, .int .i64 x219004_17, .int .i64 x219005_17, .int .i64 x219006_17, .string x219007_17]) ?_ 0 _ rfl; (with_reducible repeat (first | refine bA ?_ _ | refine bB ?_ | refine bC ?_ _)); exact BK218.out) Try.underlying32 rfl (by kernel_rfl)) rfl ?_
                   exact ⟨by first | rfl | (simp only [← hji6]; first | rfl | (simp [errW_none, errW_some] <;> rfl)) | (simp [*, errW_none, errW_some] <;> rfl), by repeat (first | (with_reducible first | exact HB.out | apply bE | apply bD | apply bF | refine below_set ?_ (IsS66.ge HI226.out) | refine below_set ?_ GE218.out | refine below_set ?_ GE223.out) | exact HB.out)⟩
                  ·rw [if_neg c81] at H
                   have c81b0 : decide (x227001_53 < ji6) = false := decide_eq_false c81
                   clear c81
                   by_cases c86 : x6_53 = true
                   ·subst c86
                    have H1 : (some (0, 0, 0, 0, 0, 0, 0, (⟨#[]⟩ : ByteArray), 5)) = some (r1, r2, r3, r4, r5, r6, r7, r8, r9) := by rw [if_pos rfl] at H; exact H
                    clear H
                    have H := H1
                    clear H1
                    simp only [zI, zJ] at H
                    obtain ⟨rfl, rfl, rfl, rfl, rfl, rfl, rfl, rfl, rfl⟩ := H
                    obtain ⟨ASz87_0, cSz87_0, HGz87, hgz87, HSz87_0⟩ := HI226.out
                    obtain ⟨HSz87_0, HLz87_0⟩ := HSz87_0
                    have hcz87_0 := cellS66_0 HGz87
                    have hcz87_1 := cellS66_1 HGz87
                    have hcz87_2 := cellS66_2 HGz87
                    have hfz87_1 := blk_frozen HGz87 1
                    have hfz87_2 := blk_frozen HGz87 2
                    clear HGz87 hgz87
                    have hnb88 := NB218_223.out
                    have hnc88 := NB223_218.out
                    have hnb89 := NB218_226.out
                    have hnc89 := NB226_218.out
                    have hcz90_0 : wc.cell? ⟨gb218, 0, none⟩ = some (.int .i64 x219000_17) := (blk_cell BK218.out 0).trans rfl
                    have hcz90_1 : wc.cell? ⟨gb218, 1, none⟩ = some (.int .i64 x219001_17) := (blk_cell BK218.out 1).trans rfl
                    have hcz90_2 : wc.cell? ⟨gb218, 2, none⟩ = some (.int .i64 x219002_17) := (blk_cell BK218.out 2).trans rfl
                    have hcz90_3 : wc.cell? ⟨gb218, 3, none⟩ = some (.int .i64 x219003_17) := (blk_cell BK218.out 3).trans rfl
                    have hcz90_4 : wc.cell? ⟨gb218, 4, none⟩ = some (.int .i64 x219004_17) := (blk_cell BK218.out 4).trans rfl
                    have hcz90_5 : wc.cell? ⟨gb218, 5, none⟩ = some (.int .i64 x219005_17) := (blk_cell BK218.out 5).trans rfl
                    have hcz90_6 : wc.cell? ⟨gb218, 6, none⟩ = some (.int .i64 x219006_17) := (blk_cell BK218.out 6).trans rfl
                    have hcz90_7 : wc.cell? ⟨gb218, 7, none⟩ = some (.string x219007_17) := (blk_cell BK218.out 7).trans rfl
                    have hfz90_0 := blk_frozen BK218.out 0
                    have hfz90_1 := blk_frozen BK218.out 1
                    have hfz90_2 := blk_frozen BK218.out 2
                    have hfz90_3 := blk_frozen BK218.out 3
                    have hfz90_4 := blk_frozen BK218.out 4
                    have hfz90_5 := blk_frozen BK218.out 5
                    have hfz90_6 := blk_frozen BK218.out 6
                    have hfz90_7 := blk_frozen BK218.out 7
                    go_wp2
                    repeat (go_quiet (fail); try go_wp2)
                    refine bodyPost_ret (results_ct rfl _ _ gb218 32 #[.int .i64 0, .int .i64 0, .int .i64 0, .int .i64 0, .int .i64 0, .int .i64 0, .int .i64 0, .string (⟨#[]⟩ : ByteArray)] (0, 0) _ rfl (by (with_reducible repeat (first | refine bA ?_ _ | refine bB ?_ | refine bC ?_ _)); refine bH (cs := #[.int .i64 0, .int .i64 0, .int .i64 0, .int .i64 0, .int .i64 0, .int .i64 0, .int .i64 0, .string x219007_17]) ?_ 7 _ rfl; (with_reducible repeat (first | refine bA ?_ _ | refine bB ?_ | refine bC ?_ _)); refine bH (cs := #[.int .i64 0, .int .i64 0, .int .i64 0, .int .i64 0, .int .i64 0, .int .i64 0, .int .i64 x219006_17, .string x219007_17]) ?_ 6 _ rfl; (with_reducible repeat (first | refine bA ?_ _ | refine bB ?_ | refine bC ?_ _)); refine bH (cs := #[.int .i64 0, .int .i64 0, .int .i64 0, .int .i64 0, .int .i64 0, .int .i64 x219005_17, .int .i64 x219006_17, .string x219007_17]) ?_ 5 _ rfl; (with_reducible repeat (first | refine bA ?_ _ | refine bB ?_ | refine bC ?_ _)); refine bH (cs := #[.int .i64 0, .int .i64 0, .int .i64 0, .int .i64 0, .int .i64 x219004_17, .int .i64 x219005_17, .int .i64 x219006_17, .string x219007_17]) ?_ 4 _ rfl; (with_reducible repeat (first | refine bA ?_ _ | refine bB ?_ | refine bC ?_ _)); refine bH (cs := #[.int .i64 0, .int .i64 0, .int .i64 0, .int .i64 x219003_17, .int .i64 x219004_17, .int .i64 x219005_17, .int .i64 x219006_17, .string x219007_17]) ?_ 3 _ rfl; (with_reducible repeat (first | refine bA ?_ _ | refine bB ?_ | refine bC ?_ _)); refine bH (cs := #[.int .i64 0, .int .i64 0, .int .i64 x219002_17, .int .i64 x219003_17, .int .i64 x219004_17, .int .i64 x219005_17, .int .i64 x219006_17, .string x219007_17]) ?_ 2 _ rfl; (with_reducible repeat (first | refine bA ?_ _ | refine bB ?_ | refine bC ?_ _)); refine bH (cs := #[.int .i64 0, .int .i64 x219001_17, .int .i64 x219002_17, .int .i64 x219003_17, .int .i64 x219004_17, .int .i64 x219005_17, .int .i64 x219006_17, .string x219007_17]) ?_ 1 _ rfl; (with_reducible repeat (first | refine bA ?_ _ | refine bB ?_ | refine bC ?_ _)); refine bH (cs := #[.int .i64 x219000_17, .int .i64 x219001_17, .int .i64 x219002_17, .int .i64 x219003_17, .int .i64 x219004_17, .int .i64 x219005_17, .int .i64 x219006_17, .string x219007_17]) ?_ 0 _ rfl; (with_reducible repeat (first | refine bA ?_ _ | refine bB ?_ | refine bC ?_ _)); exact BK218.out) Try.underlying32 rfl (by kernel_rfl)) rfl ?_
                    exact ⟨by first | rfl | (simp only [← hji6]; first | rfl | (simp [errW_none, errW_some] <;> rfl)) | (simp [*, errW_none, errW_some] <;> rfl), by repeat (first | (with_reducible first | exact HB.out | apply bE | apply bD | apply bF | refine below_set ?_ (IsS66.ge HI226.out) | refine below_set ?_ GE218.out | refine below_set ?_ GE223.out) | exact HB.out)⟩
                   ·replace c86 := Bool.eq_false_iff.mpr c86
                    subst c86
                    have H1 : ((impl_MsgOk.f (wrap64 (rd l0 0)) t227 x224002_27 x224003_27 x224004_53 x224005_53 x224006_27 x224007_27).bind fun t255 => (if t255 = true then (some ((wrap64 (rd l0 0)), t227, x224002_27, x224003_27, x224004_53, x224005_53, x224006_27, x224007_27, 0)) else (some (0, 0, 0, 0, 0, 0, 0, (⟨#[]⟩ : ByteArray), 5)))) = some (r1, r2, r3, r4, r5, r6, r7, r8, r9) := by rw [if_neg (show ¬ (false = true) by decide)] at H; exact H
                    clear H
                    have H := H1
                    clear H1
                    replace H := zO H
                    obtain ⟨t255, A910, H⟩ := H
                    replace H : (if t255 = true then (some ((wrap64 (rd l0 0)), t227, x224002_27, x224003_27, x224004_53, x224005_53, x224006_27, x224007_27, 0)) else (some (0, 0, 0, 0, 0, 0, 0, (⟨#[]⟩ : ByteArray), 5))) = some (r1, r2, r3, r4, r5, r6, r7, r8, r9) := H
                    have A91 := zM A910
                    clear A910
                    by_cases c92 : t255 = true
                    ·subst c92
                     have H1 : (some ((wrap64 (rd l0 0)), t227, x224002_27, x224003_27, x224004_53, x224005_53, x224006_27, x224007_27, 0)) = some (r1, r2, r3, r4, r5, r6, r7, r8, r9) := by rw [if_pos rfl] at H; exact H
                     clear H
                     have H := H1
                     clear H1
                     simp only [zI, zJ] at H
                     obtain ⟨rfl, rfl, rfl, rfl, rfl, rfl, rfl, rfl, rfl⟩ := H
                     obtain ⟨ASz93_0, cSz93_0, HGz93, hgz93, HSz93_0⟩ := HI226.out
                     obtain ⟨HSz93_0, HLz93_0⟩ := HSz93_0
                     have hcz93_0 := cellS66_0 HGz93
                     have hcz93_1 := cellS66_1 HGz93
                     have hcz93_2 := cellS66_2 HGz93
                     have hfz93_1 := blk_frozen HGz93 1
                     have hfz93_2 := blk_frozen HGz93 2
                     clear HGz93 hgz93
                     have hnb94 := NB223_218.out
                     have hnc94 := NB218_223.out
                     have hnb95 := NB223_226.out
                     have hnc95 := NB226_223.out
                     have hcz96_0 : wc.cell? ⟨gb223, 0, none⟩ = some (.int .i64 (wrap64 (rd l0 0))) := (blk_cell BK223.out 0).trans rfl
                     have hcz96_1 : wc.cell? ⟨gb223, 1, none⟩ = some (.int .i64 t227) := (blk_cell BK223.out 1).trans rfl
                     have hcz96_2 : wc.cell? ⟨gb223, 2, none⟩ = some (.int .i64 x224002_27) := (blk_cell BK223.out 2).trans rfl
                     have hcz96_3 : wc.cell? ⟨gb223, 3, none⟩ = some (.int .i64 x224003_27) := (blk_cell BK223.out 3).trans rfl
                     have hcz96_4 : wc.cell? ⟨gb223, 4, none⟩ = some (.int .i64 x224004_53) := (blk_cell BK223.out 4).trans rfl
                     have hcz96_5 : wc.cell? ⟨gb223, 5, none⟩ = some (.int .i64 x224005_53) := (blk_cell BK223.out 5).trans rfl
                     have hcz96_6 : wc.cell? ⟨gb223, 6, none⟩ = some (.int .i64 x224006_27) := (blk_cell BK223.out 6).trans rfl
                     have hcz96_7 : wc.cell? ⟨gb223, 7, none⟩ = some (.string x224007_27) := (blk_cell BK223.out 7).trans rfl
                     have hfz96_0 := blk_frozen BK223.out 0
                     have hfz96_1 := blk_frozen BK223.out 1
                     have hfz96_2 := blk_frozen BK223.out 2
                     have hfz96_3 := blk_frozen BK223.out 3
                     have hfz96_4 := blk_frozen BK223.out 4
                     have hfz96_5 := blk_frozen BK223.out 5
                     have hfz96_6 := blk_frozen BK223.out 6
                     have hfz96_7 := blk_frozen BK223.out 7
                     iterate 2 ((go_wp2_with (first | (go_at_call 36; (with_reducible refine (impl_MsgOk.calls (wrap64 (rd l0 0)) t227 x224002_27 x224003_27 x224004_53 x224005_53 x224006_27 x224007_27 true _ A91.out).mono ?_); rintro e w97 ⟨rfl, hb⟩; have n0_ := zM (blk_below (g := gb218) (o := .cells #[.int .i64 x219000_17, .int .i64 x219001_17, .int .i64 x219002_17, .int .i64 x219003_17, .int .i64 x219004_17, .int .i64 x219005_17, .int .i64 x219006_17, .string x219007_17] 32 (0, 0)) (by (with_reducible repeat (first | refine bA ?_ _ | refine bB ?_ | refine bC ?_ _)); exact BK218.out) hb); have n1_ := zM (blk_below (g := gb223) (o := .cells #[.int .i64 (wrap64 (rd l0 0)), .int .i64 t227, .int .i64 x224002_27, .int .i64 x224003_27, .int .i64 x224004_53, .int .i64 x224005_53, .int .i64 x224006_27, .string x224007_27] 32 (0, 0)) (by (with_reducible repeat (first | refine bA ?_ _ | refine bB ?_ | refine bC ?_ _)); exact BK223.out) hb); have n2_ := zM (IsS66.below (by repeat (first | (with_reducible first | exact HI226.out | apply IsS66.alloc | apply IsS66.drewN | apply IsS66.drew | apply IsS66.set_1 | apply IsS66.set_2 | refine IsS66.far ?_ NB226_218.out _ | refine IsS66.far ?_ NB226_223.out _) | exact HI226.out)) hb); have n3_ := zM (bG (by repeat (first | (with_reducible first | exact HB.out | apply bE | apply bD | apply bF | refine below_set ?_ (IsS66.ge HI226.out) | refine below_set ?_ GE218.out | refine below_set ?_ GE223.out) | exact HB.out)) hb); clear BK218; clear BK223; clear HI226; clear HB; have BK218 := n0_; have BK223 := n1_; have HI226 := n2_; have HB := n3_; clear n0_ n1_ n2_ n3_; (try clear hb); (try clear hk); (try clear hi); have hcz98_0 : w97.cell? ⟨gb223, 0, none⟩ = some (.int .i64 (wrap64 (rd l0 0))) := (blk_cell BK223.out 0).trans rfl; have hcz98_1 : w97.cell? ⟨gb223, 1, none⟩ = some (.int .i64 t227) := (blk_cell BK223.out 1).trans rfl; have hcz98_2 : w97.cell? ⟨gb223, 2, none⟩ = some (.int .i64 x224002_27) := (blk_cell BK223.out 2).trans rfl; have hcz98_3 : w97.cell? ⟨gb223, 3, none⟩ = some (.int .i64 x224003_27) := (blk_cell BK223.out 3).trans rfl; have hcz98_4 : w97.cell? ⟨gb223, 4, none⟩ = some (.int .i64 x224004_53) := (blk_cell BK223.out 4).trans rfl; have hcz98_5 : w97.cell? ⟨gb223, 5, none⟩ = some (.int .i64 x224005_53) := (blk_cell BK223.out 5).trans rfl; have hcz98_6 : w97.cell? ⟨gb223, 6, none⟩ = some (.int .i64 x224006_27) := (blk_cell BK223.out 6).trans rfl; have hcz98_7 : w97.cell? ⟨gb223, 7, none⟩ = some (.string x224007_27) := (blk_cell BK223.out 7).trans rfl; have hfz98_0 := blk_frozen BK223.out 0; have hfz98_1 := blk_frozen BK223.out 1; have hfz98_2 := blk_frozen BK223.out 2; have hfz98_3 := blk_frozen BK223.out 3; have hfz98_4 := blk_frozen BK223.out 4; have hfz98_5 := blk_frozen BK223.out 5; have hfz98_6 := blk_frozen BK223.out 6; have hfz98_7 := blk_frozen BK223.out 7; have hnb99 := NB218_226.out; have hnc99 := NB226_218.out; have hcz100_0 : w97.cell? ⟨gb218, 0, none⟩ = some (.int .i64 x219000_17) := (blk_cell BK218.out 0).trans rfl; have hcz100_1 : w97.cell? ⟨gb218, 1, none⟩ = some (.int .i64 x219001_17) := (blk_cell BK218.out 1).trans rfl; have hcz100_2 : w97.cell? ⟨gb218, 2, none⟩ = some (.int .i64 x219002_17) := (blk_cell BK218.out 2).trans rfl; have hcz100_3 : w97.cell? ⟨gb218, 3, none⟩ = some (.int .i64 x219003_17) := (blk_cell BK218.out 3).trans rfl; have hcz100_4 : w97.cell? ⟨gb218, 4, none⟩ = some (.int .i64 x219004_17) := (blk_cell BK218.out 4).trans rfl; have hcz100_5 : w97.cell? ⟨gb218, 5, none⟩ = some (.int .i64 x219005_17) := (blk_cell BK218.out 5).trans rfl; have hcz100_6 : w97.cell? ⟨gb218, 6, none⟩ = some (.int .i64 x219006_17) := (blk_cell BK218.out 6).trans rfl; have hcz100_7 : w97.cell? ⟨gb218, 7, none⟩ = some (.string x219007_17) := (blk_cell BK218.out 7).trans rfl; have hfz100_0 := blk_frozen BK218.out 0; have hfz100_1 := blk_frozen BK218.out 1; have hfz100_2 := blk_frozen BK218.out 2; have hfz100_3 := blk_frozen BK218.out 3; have hfz100_4 := blk_frozen BK218.out 4; have hfz100_5 := blk_frozen BK218.out 5; have hfz100_6 := blk_frozen BK218.out 6; have hfz100_7 := blk_frozen BK218.out 7))); (try go_quiet (fail)))
                     refine bodyPost_ret (results_ct rfl _ _ gb218 32 #[.int .i64 (wrap64 (rd l0 0)), .int .i64 t227, .int .i64 x224002_27, .int .i64 x224003_27, .int .i64 x224004_53, .int .i64 x224005_53, .int .i64 x224006_27, .string x224007_27] (0, 0) _ rfl (by (with_reducible repeat (first | refine bA ?_ _ | refine bB ?_ | refine bC ?_ _)); refine bH (cs := #[.int .i64 (wrap64 (rd l0 0)), .int .i64 t227, .int .i64 x224002_27, .int .i64 x224003_27, .int .i64 x224004_53, .int .i64 x224005_53, .int .i64 x224006_27, .string x219007_17]) ?_ 7 _ rfl; (with_reducible repeat (first | refine bA ?_ _ | refine bB ?_ | refine bC ?_ _)); refine bH (cs := #[.int .i64 (wrap64 (rd l0 0)), .int .i64 t227, .int .i64 x224002_27, .int .i64 x224003_27, .int .i64 x224004_53, .int .i64 x224005_53, .int .i64 x219006_17, .string x219007_17]) ?_ 6 _ rfl; (with_reducible repeat (first | refine bA ?_ _ | refine bB ?_ | refine bC ?_ _)); refine bH (cs := #[.int .i64 (wrap64 (rd l0 0)), .int .i64 t227, .int .i64 x224002_27, .int .i64 x224003_27, .int .i64 x224004_53, .int .i64 x219005_17, .int .i64 x219006_17, .string x219007_17]) ?_ 5 _ rfl; (with_reducible repeat (first | refine bA ?_ _ | refine bB ?_ | refine bC ?_ _)); refine bH (cs := #[.int .i64 (wrap64 (rd l0 0)), .int .i64 t227, .int .i64 x224002_27, .int .i64 x224003_27, .int .i64 x219004_17, .int .i64 x219005_17, .int .i64 x219006_17, .string x219007_17]) ?_ 4 _ rfl; (with_reducible repeat (first | refine bA ?_ _ | refine bB ?_ | refine bC ?_ _)); refine bH (cs := #[.int .i64 (wrap64 (rd l0 0)), .int .i64 t227, .int .i64 x224002_27, .int .i64 x219003_17, .int .i64 x219004_17, .int .i64 x219005_17, .int .i64 x219006_17, .string x219007_17]) ?_ 3 _ rfl; (with_reducible repeat (first | refine bA ?_ _ | refine bB ?_ | refine bC ?_ _)); refine bH (cs := #[.int .i64 (wrap64 (rd l0 0)), .int .i64 t227, .int .i64 x219002_17, .int .i64 x219003_17, .int .i64 x219004_17, .int .i64 x219005_17, .int .i64 x219006_17, .string x219007_17]) ?_ 2 _ rfl; (with_reducible repeat (first | refine bA ?_ _ | refine bB ?_ | refine bC ?_ _)); refine bH (cs := #[.int .i64 (wrap64 (rd l0 0)), .int .i64 x219001_17, .int .i64 x219002_17, .int .i64 x219003_17, .int .i64 x219004_17, .int .i64 x219005_17, .int .i64 x219006_17, .string x219007_17]) ?_ 1 _ rfl; (with_reducible repeat (first | refine bA ?_ _ | refine bB ?_ | refine bC ?_ _)); refine bH (cs := #[.int .i64 x219000_17, .int .i64 x219001_17, .int .i64 x219002_17, .int .i64 x219003_17, .int .i64 x219004_17, .int .i64 x219005_17, .int .i64 x219006_17, .string x219007_17]) ?_ 0 _ rfl; (with_reducible repeat (first | refine bA ?_ _ | refine bB ?_ | refine bC ?_ _)); exact BK218.out) Try.underlying32 rfl (by kernel_rfl)) rfl ?_
                     exact ⟨by first | rfl | (simp only [← hji6]; first | rfl | (simp [errW_none, errW_some] <;> rfl)) | (simp [*, errW_none, errW_some] <;> rfl), by repeat (first | (with_reducible first | exact HB.out | apply bE | apply bD | apply bF | refine below_set ?_ (IsS66.ge HI226.out) | refine below_set ?_ GE218.out | refine below_set ?_ GE223.out) | exact HB.out)⟩
                    ·replace c92 := Bool.eq_false_iff.mpr c92
                     subst c92
                     have H1 : (some (0, 0, 0, 0, 0, 0, 0, (⟨#[]⟩ : ByteArray), 5)) = some (r1, r2, r3, r4, r5, r6, r7, r8, r9) := by rw [if_neg (show ¬ (false = true) by decide)] at H; exact H
                     clear H
                     have H := H1
                     clear H1
                     simp only [zI, zJ] at H
                     obtain ⟨rfl, rfl, rfl, rfl, rfl, rfl, rfl, rfl, rfl⟩ := H
                     obtain ⟨ASz101_0, cSz101_0, HGz101, hgz101, HSz101_0⟩ := HI226.out
                     obtain ⟨HSz101_0, HLz101_0⟩ := HSz101_0
                     have hcz101_0 := cellS66_0 HGz101
                     have hcz101_1 := cellS66_1 HGz101
                     have hcz101_2 := cellS66_2 HGz101
                     have hfz101_1 := blk_frozen HGz101 1
                     have hfz101_2 := blk_frozen HGz101 2
                     clear HGz101 hgz101
                     have hnb102 := NB223_218.out
                     have hnc102 := NB218_223.out
                     have hnb103 := NB223_226.out
                     have hnc103 := NB226_223.out
                     have hcz104_0 : wc.cell? ⟨gb223, 0, none⟩ = some (.int .i64 (wrap64 (rd l0 0))) := (blk_cell BK223.out 0).trans rfl
                     have hcz104_1 : wc.cell? ⟨gb223, 1, none⟩ = some (.int .i64 t227) := (blk_cell BK223.out 1).trans rfl
                     have hcz104_2 : wc.cell? ⟨gb223, 2, none⟩ = some (.int .i64 x224002_27) := (blk_cell BK223.out 2).trans rfl
                     have hcz104_3 : wc.cell? ⟨gb223, 3, none⟩ = some (.int .i64 x224003_27) := (blk_cell BK223.out 3).trans rfl
                     have hcz104_4 : wc.cell? ⟨gb223, 4, none⟩ = some (.int .i64 x224004_53) := (blk_cell BK223.out 4).trans rfl
                     have hcz104_5 : wc.cell? ⟨gb223, 5, none⟩ = some (.int .i64 x224005_53) := (blk_cell BK223.out 5).trans rfl
                     have hcz104_6 : wc.cell? ⟨gb223, 6, none⟩ = some (.int .i64 x224006_27) := (blk_cell BK223.out 6).trans rfl
                     have hcz104_7 : wc.cell? ⟨gb223, 7, none⟩ = some (.string x224007_27) := (blk_cell BK223.out 7).trans rfl
                     have hfz104_0 := blk_frozen BK223.out 0
                     have hfz104_1 := blk_frozen BK223.out 1
                     have hfz104_2 := blk_frozen BK223.out 2
                     have hfz104_3 := blk_frozen BK223.out 3
                     have hfz104_4 := blk_frozen BK223.out 4
                     have hfz104_5 := blk_frozen BK223.out 5
                     have hfz104_6 := blk_frozen BK223.out 6
                     have hfz104_7 := blk_frozen BK223.out 7
                     iterate 2 ((go_wp2_with (first | (go_at_call 36; (with_reducible refine (impl_MsgOk.calls (wrap64 (rd l0 0)) t227 x224002_27 x224003_27 x224004_53 x224005_53 x224006_27 x224007_27 false _ A91.out).mono ?_); rintro e w105 ⟨rfl, hb⟩; have n0_ := zM (blk_below (g := gb218) (o := .cells #[.int .i64 x219000_17, .int .i64 x219001_17, .int .i64 x219002_17, .int .i64 x219003_17, .int .i64 x219004_17, .int .i64 x219005_17, .int .i64 x219006_17, .string x219007_17] 32 (0, 0)) (by (with_reducible repeat (first | refine bA ?_ _ | refine bB ?_ | refine bC ?_ _)); exact BK218.out) hb); have n1_ := zM (blk_below (g := gb223) (o := .cells #[.int .i64 (wrap64 (rd l0 0)), .int .i64 t227, .int .i64 x224002_27, .int .i64 x224003_27, .int .i64 x224004_53, .int .i64 x224005_53, .int .i64 x224006_27, .string x224007_27] 32 (0, 0)) (by (with_reducible repeat (first | refine bA ?_ _ | refine bB ?_ | refine bC ?_ _)); exact BK223.out) hb); have n2_ := zM (IsS66.below (by repeat (first | (with_reducible first | exact HI226.out | apply IsS66.alloc | apply IsS66.drewN | apply IsS66.drew | apply IsS66.set_1 | apply IsS66.set_2 | refine IsS66.far ?_ NB226_218.out _ | refine IsS66.far ?_ NB226_223.out _) | exact HI226.out)) hb); have n3_ := zM (bG (by repeat (first | (with_reducible first | exact HB.out | apply bE | apply bD | apply bF | refine below_set ?_ (IsS66.ge HI226.out) | refine below_set ?_ GE218.out | refine below_set ?_ GE223.out) | exact HB.out)) hb); clear BK218; clear BK223; clear HI226; clear HB; have BK218 := n0_; have BK223 := n1_; have HI226 := n2_; have HB := n3_; clear n0_ n1_ n2_ n3_; (try clear hb); (try clear hk); (try clear hi); have hnb106 := NB218_226.out; have hnc106 := NB226_218.out; have hcz107_0 : w105.cell? ⟨gb218, 0, none⟩ = some (.int .i64 x219000_17) := (blk_cell BK218.out 0).trans rfl; have hcz107_1 : w105.cell? ⟨gb218, 1, none⟩ = some (.int .i64 x219001_17) := (blk_cell BK218.out 1).trans rfl; have hcz107_2 : w105.cell? ⟨gb218, 2, none⟩ = some (.int .i64 x219002_17) := (blk_cell BK218.out 2).trans rfl; have hcz107_3 : w105.cell? ⟨gb218, 3, none⟩ = some (.int .i64 x219003_17) := (blk_cell BK218.out 3).trans rfl; have hcz107_4 : w105.cell? ⟨gb218, 4, none⟩ = some (.int .i64 x219004_17) := (blk_cell BK218.out 4).trans rfl; have hcz107_5 : w105.cell? ⟨gb218, 5, none⟩ = some (.int .i64 x219005_17) := (blk_cell BK218.out 5).trans rfl; have hcz107_6 : w105.cell? ⟨gb218, 6, none⟩ = some (.int .i64 x219006_17) := (blk_cell BK218.out 6).trans rfl; have hcz107_7 : w105.cell? ⟨gb218, 7, none⟩ = some (.string x219007_17) := (blk_cell BK218.out 7).trans rfl; have hfz107_0 := blk_frozen BK218.out 0; have hfz107_1 := blk_frozen BK218.out 1; have hfz107_2 := blk_frozen BK218.out 2; have hfz107_3 := blk_frozen BK218.out 3; have hfz107_4 := blk_frozen BK218.out 4; have hfz107_5 := blk_frozen BK218.out 5; have hfz107_6 := blk_frozen BK218.out 6; have hfz107_7 := blk_frozen BK218.out 7))); (try go_quiet (fail)))
                     refine bodyPost_ret (results_ct rfl _ _ gb218 32 #[.int .i64 0, .int .i64 0, .int .i64 0, .int .i64 0, .int .i64 0, .int .i64 0, .int .i64 0, .string (⟨#[]⟩ : ByteArray)] (0, 0) _ rfl (by (with_reducible repeat (first | refine bA ?_ _ | refine bB ?_ | refine bC ?_ _)); refine bH (cs := #[.int .i64 0, .int .i64 0, .int .i64 0, .int .i64 0, .int .i64 0, .int .i64 0, .int .i64 0, .string x219007_17]) ?_ 7 _ rfl; (with_reducible repeat (first | refine bA ?_ _ | refine bB ?_ | refine bC ?_ _)); refine bH (cs := #[.int .i64 0, .int .i64 0, .int .i64 0, .int .i64 0, .int .i64 0, .int .i64 0, .int .i64 x219006_17, .string x219007_17]) ?_ 6 _ rfl; (with_reducible repeat (first | refine bA ?_ _ | refine bB ?_ | refine bC ?_ _)); refine bH (cs := #[.int .i64 0, .int .i64 0, .int .i64 0, .int .i64 0, .int .i64 0, .int .i64 x219005_17, .int .i64 x219006_17, .string x219007_17]) ?_ 5 _ rfl; (with_reducible repeat (first | refine bA ?_ _ | refine bB ?_ | refine bC ?_ _)); refine bH (cs := #[.int .i64 0, .int .i64 0, .int .i64 0, .int .i64 0, .int .i64 x219004_17, .int .i64 x219005_17, .int .i64 x219006_17, .string x219007_17]) ?_ 4 _ rfl; (with_reducible repeat (first | refine bA ?_ _ | refine bB ?_ | refine bC ?_ _)); refine bH (cs := #[.int .i64 0, .int .i64 0, .int .i64 0, .int .i64 x219003_17, .int .i64 x219004_17, .int .i64 x219005_17, .int .i64 x219006_17, .string x219007_17]) ?_ 3 _ rfl; (with_reducible repeat (first | refine bA ?_ _ | refine bB ?_ | refine bC ?_ _)); refine bH (cs := #[.int .i64 0, .int .i64 0, .int .i64 x219002_17, .int .i64 x219003_17, .int .i64 x219004_17, .int .i64 x219005_17, .int .i64 x219006_17, .string x219007_17]) ?_ 2 _ rfl; (with_reducible repeat (first | refine bA ?_ _ | refine bB ?_ | refine bC ?_ _)); refine bH (cs := #[.int .i64 0, .int .i64 x219001_17, .int .i64 x219002_17, .int .i64 x219003_17, .int .i64 x219004_17, .int .i64 x219005_17, .int .i64 x219006_17, .string x219007_17]) ?_ 1 _ rfl; (with_reducible repeat (first | refine bA ?_ _ | refine bB ?_ | refine bC ?_ _)); refine bH (cs := #[.int .i64 x219000_17, .int .i64 x219001_17, .int .i64 x219002_17, .int .i64 x219003_17, .int .i64 x219004_17, .int .i64 x219005_17, .int .i64 x219006_17, .string x219007_17]) ?_ 0 _ rfl; (with_reducible repeat (first | refine bA ?_ _ | refine bB ?_ | refine bC ?_ _)); exact BK218.out) Try.underlying32 rfl (by kernel_rfl)) rfl ?_
                     exact ⟨by first | rfl | (simp only [← hji6]; first | rfl | (simp [errW_none, errW_some] <;> rfl)) | (simp [*, errW_none, errW_some] <;> rfl), by repeat (first | (with_reducible first | exact HB.out | apply bE | apply bD | apply bF | refine below_set ?_ (IsS66.ge HI226.out) | refine below_set ?_ GE218.out | refine below_set ?_ GE223.out) | exact HB.out)⟩
            ·rw [if_neg c26] at H
             exact absurd H (by simp)
           ·rw [if_neg c25] at H
            exact absurd H (by simp)
        ·rw [if_neg c16] at H
         exact absurd H (by simp)
     ·rw [if_neg c10] at H
      exact absurd H (by simp)
    ·rw [if_neg c8] at H
     exact absurd H (by simp)
   ·rw [if_neg c7] at H
    exact absurd H (by simp)

end Go.Proofs.Ytpnfbekbkeiahaa.XFnExactSplitMsgs
