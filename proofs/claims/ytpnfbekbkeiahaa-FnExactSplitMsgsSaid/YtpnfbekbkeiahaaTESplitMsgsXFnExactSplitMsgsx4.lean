-- Written by a program of this claim's session (wip/xprint.py), out of the translation.
import Derived.Test.YtpnfbekbkeiahaaTESplitMsgsXFnExactSplitMsgsx0
import Derived.Test.YtpnfbekbkeiahaaTESplitMsgsXFnExactSplitMsgsx3
namespace Go.Proofs.Ytpnfbekbkeiahaa.XFnExactSplitMsgs
open Go.RowKit Go.Proofs.YtpnfbekbkeiahaaW.PrintWords Go.Proofs.YtpnfbekbkeiahaaW.PrintLast Go.Proofs.YtpnfbekbkeiahaaW.PrintMore
open Go.Proofs.YtpnfbekbkeiahaaW.PrintWords renaming blk_drewN → bA, blk_drew → bB, blk_alloc → bC, pw_below_drewN → bD, below_alloc → bE, below_drew1 → bF, Aside0.mk → zM, below_step → bG, blk_put → bH
open List renaming setIfInBounds_toArray → zS, set_cons_zero → z0, set_cons_succ → z1
attribute [local go_sem] max2_int min2_int max_two min_two max_three min_three max_four min_four
set_option linter.unusedVariables false
set_option linter.unusedSimpArgs false
set_option maxHeartbeats 8000000
set_option maxRecDepth 100000

/-! ### laws_eqMsgS: function 29 -/
def laws_eqMsgS.l0 : Nat → List (S32) → List (S32) → Int → Option (Bool)
 | 0, _, _, _ => none
 | k + 1, x0, x1, x5 => if x5 < (x0.length : Int) then (if 0 ≤ x5 then (if x5 < (x1.length : Int) then ((laws_eqMsg.f ((rd_T32 x0 x5).f0) ((rd_T32 x0 x5).f1) ((rd_T32 x0 x5).f2) ((rd_T32 x0 x5).f3) ((rd_T32 x0 x5).f4.f0) ((rd_T32 x0 x5).f4.f1) ((rd_T32 x0 x5).f5) ((rd_T32 x0 x5).f6) ((rd_T32 x1 x5).f0) ((rd_T32 x1 x5).f1) ((rd_T32 x1 x5).f2) ((rd_T32 x1 x5).f3) ((rd_T32 x1 x5).f4.f0) ((rd_T32 x1 x5).f4.f1) ((rd_T32 x1 x5).f5) ((rd_T32 x1 x5).f6)).bind fun t116 => (if t116 = true then (laws_eqMsgS.l0 k x0 x1 (wrap64 (x5 + 1))) else (some false))) else (none)) else (none)) else (some true)
def laws_eqMsgS.f (k : Nat) (l0 : List (S32)) (l1 : List (S32)) : Option (Bool) := if (l0.length : Int) = (l1.length : Int) then (laws_eqMsgS.l0 k l0 l1 0) else (some false)
theorem laws_eqMsgS.mono_l : ∀ k, (∀ y0 y1 y2, LeO (laws_eqMsgS.l0 k y0 y1 y2) (laws_eqMsgS.l0 (k + 1) y0 y1 y2))
 | 0 => fun _ _ _ r h => by simp [laws_eqMsgS.l0] at h
 | k + 1 => by
  have ih0 := laws_eqMsgS.mono_l k
  ·intro y0 y1 y2
   unfold laws_eqMsgS.l0
   repeat' first
   | (with_reducible exact ih0 _ _ _)
   | (with_reducible exact LeO.refl _)
   | (with_reducible exact LeO.none _)
   | (with_reducible refine LeO.ite ?_ ?_)
   | (with_reducible refine LeO.bind ?_ (fun _ => ?_))
   | exact ih0 _ _ _
   | exact LeO.none _
   | refine LeO.ite ?_ ?_
   | refine LeO.bind ?_ (fun _ => ?_)
theorem laws_eqMsgS.mono : ∀ a0 a1 k, LeO (laws_eqMsgS.f k a0 a1) (laws_eqMsgS.f (k + 1) a0 a1) := by
 intro a0 a1 k
 have ih0 := laws_eqMsgS.mono_l k
 unfold laws_eqMsgS.f
 repeat' first
   | (with_reducible exact ih0 _ _ _)
   | (with_reducible exact LeO.refl _)
   | (with_reducible exact LeO.none _)
   | (with_reducible refine LeO.ite ?_ ?_)
   | (with_reducible refine LeO.bind ?_ (fun _ => ?_))
   | exact ih0 _ _ _
   | exact LeO.none _
   | refine LeO.ite ?_ ?_
   | refine LeO.bind ?_ (fun _ => ?_)
def laws_eqMsgS.T6 : Bool × List (List Nat × List Nat) := (true, [([], []), ([], []), ([0, 1], [0, 1]), ([2], [2]), ([], []), ([], []), ([4, 5], [4, 5]), ([6], [6]), ([3, 7], [3, 7]), ([8], [8])])
def laws_eqMsgS.B6 : List Nat := [0, 0, 3, 7, 0, 0, 48, 112, 255, 511]
theorem laws_eqMsgS.tab6 : rtab .any (opsOf Try.f29 6) = laws_eqMsgS.T6 := by kernel_rfl
theorem laws_eqMsgS.bits6 : waitsOk laws_eqMsgS.T6.2 laws_eqMsgS.B6 = true := by kernel_rfl
theorem laws_eqMsgS.calls (k : Nat) (A0 : Option Addr) (c0 : Nat) (l0 : List (S32)) (A1 : Option Addr) (c1 : Nat) (l1 : List (S32)) (r : Bool) (w : World) (hr0 : Kd.C k32 w A0 l0.length l0) (hc0 : l0.length ≤ c0) (hr1 : Kd.C k32 w A1 l1.length l1) (hc1 : l1.length ≤ c1) (h : laws_eqMsgS.f k l0 l1 = some r) :
  Calls Try.prog 29 #[.slice A0 l0.length c0, .slice A1 l1.length c1] w fun e w' => e = .returned (.bool r) ∧ Below w.heap.size w w' := by
 have hu32 := Try.underlying32
 have HR0 := zM hr0
 have HC0 := zM hc0
 clear hr0 hc0
 have HR1 := zM hr1
 have HC1 := zM hc1
 clear hr1 hc1
 have HB := zM (Below.refl w.heap.size w)
 have H : (if (l0.length : Int) = (l1.length : Int) then (laws_eqMsgS.l0 k l0 l1 0) else (some false)) = some r := h
 clear h
 by_cases c3 : (l0.length : Int) = (l1.length : Int)
 ·rw [if_pos c3] at H
  have c3b0 : ((l0.length : Int) == (l1.length : Int)) = true := beq_iff_eq.mpr c3
  have c3b1 : ((l0.length : Int) != (l1.length : Int)) = false := bne_eq_false_iff_eq.mpr c3
  have c3b2 : (l0.length == l1.length) = true := by first | simpa using c3 | (simp at c3 ⊢; omega)
  clear c3
  have H' := zM H
  clear H
  go_enter Try.func29, Try.ntmps29
  go_wp2
  go_loopg [5] k (fun kq v5 w' => ∃ (x5_1 : Int), v5 = .int .i64 x5_1 ∧ Aside0 (laws_eqMsgS.l0 kq l0 l1 x5_1 = some r) ∧ Aside0 (kq ≤ k) ∧ Aside0 (Below w.heap.size w w'))
  case atStart => exact ⟨(0), (by first | rfl | (simp; done) | (simp [*]; done)), H', ⟨Nat.le_refl _⟩, ⟨by repeat (first | (with_reducible first | exact HB.out | apply bE | apply bD | apply bF) | exact HB.out)⟩⟩
  case round =>
   clear H'
   try clear c1
   try clear c2
   try clear p2
   try clear c3
   try clear c3b0
   try clear c3b1
   try clear c3b2
   obtain ⟨x5_1, rfl, HA, HK1, HB⟩ := hrel
   cases gk with
   | zero => exact absurd HA.out (by simp [laws_eqMsgS.l0])
   | succ k1 =>
    have H := HA.out
    clear HA
    simp only [laws_eqMsgS.l0] at H
    by_cases c4 : x5_1 < (l0.length : Int)
    ·rw [if_pos c4] at H
     have c4b0 : decide (x5_1 < (l0.length : Int)) = true := decide_eq_true c4
     clear c4
     by_cases c5 : 0 ≤ x5_1
     ·rw [if_pos c5] at H
      have c5b0 : decide (0 ≤ x5_1) = true := decide_eq_true c5
      clear c5
      by_cases c6 : x5_1 < (l1.length : Int)
      ·rw [if_pos c6] at H
       have c6b0 : decide (x5_1 < (l1.length : Int)) = true := decide_eq_true c6
       clear c6
       replace H := zO H
       obtain ⟨t116, A70, H⟩ := H
       replace H : (if t116 = true then (laws_eqMsgS.l0 k1 l0 l1 (wrap64 (x5_1 + 1))) else (some false)) = some r := H
       have A7 := zM A70
       clear A70
       by_cases c8 : t116 = true
       ·subst c8
        have H1 : (laws_eqMsgS.l0 k1 l0 l1 (wrap64 (x5_1 + 1))) = some r := by rw [if_pos rfl] at H; exact H
        clear H
        have H := H1
        clear H1
        have H' := zM H
        clear H
        try go_wp2
        have n0_ := zM (bF HB.out)
        clear HB
        have HB := n0_
        clear n0_
        have p114 : 0 ≤ (x5_1 : Int) := of_decide_eq_true (by first | (with_reducible assumption) | assumption)
        have q114 : x5_1 < (l0.length : Int) := of_decide_eq_true (by first | (with_reducible assumption) | assumption)
        obtain ⟨ad114, e114, hx114_0, hx114_1, hx114_2, hx114_3, hx114_4, hx114_5, hx114_6, hx114_7⟩ := at_T32 HR0.out x5_1 p114 q114
        have hw114_7 := hx114_7
        have hw114_6 := hx114_6
        have hw114_5 := hx114_5
        have hw114_4 := hx114_4
        have hw114_3 := hx114_3
        have hw114_2 := hx114_2
        have hw114_1 := hx114_1
        have hw114_0 := hx114_0
        cases e114
        replace hx114_0 := (HB.out.cell (World.block_lt_of_cell? w _ hx114_0)).trans hx114_0
        replace hx114_1 := (HB.out.cell (World.block_lt_of_cell? w _ hx114_1)).trans hx114_1
        replace hx114_2 := (HB.out.cell (World.block_lt_of_cell? w _ hx114_2)).trans hx114_2
        replace hx114_3 := (HB.out.cell (World.block_lt_of_cell? w _ hx114_3)).trans hx114_3
        replace hx114_4 := (HB.out.cell (World.block_lt_of_cell? w _ hx114_4)).trans hx114_4
        replace hx114_5 := (HB.out.cell (World.block_lt_of_cell? w _ hx114_5)).trans hx114_5
        replace hx114_6 := (HB.out.cell (World.block_lt_of_cell? w _ hx114_6)).trans hx114_6
        replace hx114_7 := (HB.out.cell (World.block_lt_of_cell? w _ hx114_7)).trans hx114_7
        replace p114 := eq_true p114
        replace q114 := eq_true q114
        have p115 : 0 ≤ (x5_1 : Int) := of_decide_eq_true (by first | (with_reducible assumption) | assumption)
        have q115 : x5_1 < (l1.length : Int) := of_decide_eq_true (by first | (with_reducible assumption) | assumption)
        obtain ⟨ad115, e115, hx115_0, hx115_1, hx115_2, hx115_3, hx115_4, hx115_5, hx115_6, hx115_7⟩ := at_T32 HR1.out x5_1 p115 q115
        have hw115_7 := hx115_7
        have hw115_6 := hx115_6
        have hw115_5 := hx115_5
        have hw115_4 := hx115_4
        have hw115_3 := hx115_3
        have hw115_2 := hx115_2
        have hw115_1 := hx115_1
        have hw115_0 := hx115_0
        cases e115
        replace hx115_0 := (HB.out.cell (World.block_lt_of_cell? w _ hx115_0)).trans hx115_0
        replace hx115_1 := (HB.out.cell (World.block_lt_of_cell? w _ hx115_1)).trans hx115_1
        replace hx115_2 := (HB.out.cell (World.block_lt_of_cell? w _ hx115_2)).trans hx115_2
        replace hx115_3 := (HB.out.cell (World.block_lt_of_cell? w _ hx115_3)).trans hx115_3
        replace hx115_4 := (HB.out.cell (World.block_lt_of_cell? w _ hx115_4)).trans hx115_4
        replace hx115_5 := (HB.out.cell (World.block_lt_of_cell? w _ hx115_5)).trans hx115_5
        replace hx115_6 := (HB.out.cell (World.block_lt_of_cell? w _ hx115_6)).trans hx115_6
        replace hx115_7 := (HB.out.cell (World.block_lt_of_cell? w _ hx115_7)).trans hx115_7
        replace p115 := eq_true p115
        replace q115 := eq_true q115
        refine start_ (n := 10) (S := fun w' => w'.cell? (ad114.add ((x5_1).toNat * 8)) = some (.int .i64 ((rd_T32 l0 x5_1).f0)) ∧ w'.cell? ⟨(ad114.add ((x5_1).toNat * 8)).block, (ad114.add ((x5_1).toNat * 8)).off + 1, none⟩ = some (.int .i64 ((rd_T32 l0 x5_1).f1)) ∧ w'.cell? ⟨(ad114.add ((x5_1).toNat * 8)).block, (ad114.add ((x5_1).toNat * 8)).off + 2, none⟩ = some (.int .i64 ((rd_T32 l0 x5_1).f2)) ∧ w'.cell? ⟨(ad114.add ((x5_1).toNat * 8)).block, (ad114.add ((x5_1).toNat * 8)).off + 3, none⟩ = some (.int .i64 ((rd_T32 l0 x5_1).f3)) ∧ w'.cell? ⟨(ad114.add ((x5_1).toNat * 8)).block, (ad114.add ((x5_1).toNat * 8)).off + 4, none⟩ = some (.int .i64 ((rd_T32 l0 x5_1).f4.f0)) ∧ w'.cell? ⟨(ad114.add ((x5_1).toNat * 8)).block, (ad114.add ((x5_1).toNat * 8)).off + 5, none⟩ = some (.int .i64 ((rd_T32 l0 x5_1).f4.f1)) ∧ w'.cell? ⟨(ad114.add ((x5_1).toNat * 8)).block, (ad114.add ((x5_1).toNat * 8)).off + 6, none⟩ = some (.int .i64 ((rd_T32 l0 x5_1).f5)) ∧ w'.cell? ⟨(ad114.add ((x5_1).toNat * 8)).block, (ad114.add ((x5_1).toNat * 8)).off + 7, none⟩ = some (.string ((rd_T32 l0 x5_1).f6)) ∧ w'.cell? (ad115.add ((x5_1).toNat * 8)) = some (.int .i64 ((rd_T32 l1 x5_1).f0)) ∧ w'.cell? ⟨(ad115.add ((x5_1).toNat * 8)).block, (ad115.add ((x5_1).toNat * 8)).off + 1, none⟩ = some (.int .i64 ((rd_T32 l1 x5_1).f1)) ∧ w'.cell? ⟨(ad115.add ((x5_1).toNat * 8)).block, (ad115.add ((x5_1).toNat * 8)).off + 2, none⟩ = some (.int .i64 ((rd_T32 l1 x5_1).f2)) ∧ w'.cell? ⟨(ad115.add ((x5_1).toNat * 8)).block, (ad115.add ((x5_1).toNat * 8)).off + 3, none⟩ = some (.int .i64 ((rd_T32 l1 x5_1).f3)) ∧ w'.cell? ⟨(ad115.add ((x5_1).toNat * 8)).block, (ad115.add ((x5_1).toNat * 8)).off + 4, none⟩ = some (.int .i64 ((rd_T32 l1 x5_1).f4.f0)) ∧ w'.cell? ⟨(ad115.add ((x5_1).toNat * 8)).block, (ad115.add ((x5_1).toNat * 8)).off + 5, none⟩ = some (.int .i64 ((rd_T32 l1 x5_1).f4.f1)) ∧ w'.cell? ⟨(ad115.add ((x5_1).toNat * 8)).block, (ad115.add ((x5_1).toNat * 8)).off + 6, none⟩ = some (.int .i64 ((rd_T32 l1 x5_1).f5)) ∧ w'.cell? ⟨(ad115.add ((x5_1).toNat * 8)).block, (ad115.add ((x5_1).toNat * 8)).off + 7, none⟩ = some (.string ((rd_T32 l1 x5_1).f6))) (ds := []) #[false, false, false, false, false, false, false, false, false, false] (by kernel_rfl) rfl rfl ⟨((HB.out.cell (World.block_lt_of_cell? w _ hw114_0)).trans hw114_0), ((HB.out.cell (World.block_lt_of_cell? w _ hw114_1)).trans hw114_1), ((HB.out.cell (World.block_lt_of_cell? w _ hw114_2)).trans hw114_2), ((HB.out.cell (World.block_lt_of_cell? w _ hw114_3)).trans hw114_3), ((HB.out.cell (World.block_lt_of_cell? w _ hw114_4)).trans hw114_4), ((HB.out.cell (World.block_lt_of_cell? w _ hw114_5)).trans hw114_5), ((HB.out.cell (World.block_lt_of_cell? w _ hw114_6)).trans hw114_6), ((HB.out.cell (World.block_lt_of_cell? w _ hw114_7)).trans hw114_7), ((HB.out.cell (World.block_lt_of_cell? w _ hw115_0)).trans hw115_0), ((HB.out.cell (World.block_lt_of_cell? w _ hw115_1)).trans hw115_1), ((HB.out.cell (World.block_lt_of_cell? w _ hw115_2)).trans hw115_2), ((HB.out.cell (World.block_lt_of_cell? w _ hw115_3)).trans hw115_3), ((HB.out.cell (World.block_lt_of_cell? w _ hw115_4)).trans hw115_4), ((HB.out.cell (World.block_lt_of_cell? w _ hw115_5)).trans hw115_5), ((HB.out.cell (World.block_lt_of_cell? w _ hw115_6)).trans hw115_6), ((HB.out.cell (World.block_lt_of_cell? w _ hw115_7)).trans hw115_7)⟩ (fun hHeld => ?_); refine with_tabW laws_eqMsgS.tab6 laws_eqMsgS.bits6 (fun HT_ HW_ => ?_)
        generalize wr.drew = w9 at HB hx114_0 hx114_1 hx114_2 hx114_3 hx114_4 hx114_5 hx114_6 hx114_7 hx115_0 hx115_1 hx115_2 hx115_3 hx115_4 hx115_5 hx115_6 hx115_7 hHeld ⊢
        refine pure_ (i := 0) (N := some 17) (v := ?_) (a' := ?_) #[true, false, false, false, false, false, false, false, false, false] rfl rfl (any_of HT_.out (by kernel_rfl)) (fun _ _ _ h => h) (Or.inl ⟨by rfl, ?_⟩) ?_ ?_
        rotate_left
        ·intro w'
         go_simp
         with_reducible rfl
        rotate_left
        ·simp only [Act.put, zS, z0, z1, i64_w, i32_w]
         rfl
        refine pure_ (i := 1) (N := some 18) (v := ?_) (a' := ?_) #[true, true, false, false, false, false, false, false, false, false] rfl rfl (any_of HT_.out (by kernel_rfl)) (fun _ _ _ h => h) (Or.inl ⟨by rfl, ?_⟩) ?_ ?_
        rotate_left
        ·intro w'
         go_simp
         with_reducible rfl
        rotate_left
        ·simp only [Act.put, zS, z0, z1, i64_w, i32_w]
         rfl
        refine pure_ (i := 2) (N := some 19) (v := ?_) (a' := ?_) #[true, true, true, false, false, false, false, false, false, false] rfl rfl (any_of HT_.out (by kernel_rfl)) (fun _ _ _ h => h) (Or.inl ⟨by rfl, ?_⟩) ?_ ?_
        rotate_left
        ·intro w'
         go_simp
         with_reducible rfl
        rotate_left
        ·simp only [Act.put, zS, z0, z1, i64_w, i32_w]
         rfl
        refine pure_ (i := 4) (N := some 21) (v := ?_) (a' := ?_) #[true, true, true, false, true, false, false, false, false, false] rfl rfl (any_of HT_.out (by kernel_rfl)) (fun _ _ _ h => h) (Or.inl ⟨by rfl, ?_⟩) ?_ ?_
        rotate_left
        ·intro w'
         go_simp
         with_reducible rfl
        rotate_left
        ·simp only [Act.put, zS, z0, z1, i64_w, i32_w]
         rfl
        refine pure_ (i := 5) (N := some 22) (v := ?_) (a' := ?_) #[true, true, true, false, true, true, false, false, false, false] rfl rfl (any_of HT_.out (by kernel_rfl)) (fun _ _ _ h => h) (Or.inl ⟨by rfl, ?_⟩) ?_ ?_
        rotate_left
        ·intro w'
         go_simp
         with_reducible rfl
        rotate_left
        ·simp only [Act.put, zS, z0, z1, i64_w, i32_w]
         rfl
        refine pure_ (i := 6) (N := some 23) (v := ?_) (a' := ?_) #[true, true, true, false, true, true, true, false, false, false] rfl rfl (any_of HT_.out (by kernel_rfl)) (fun _ _ _ h => h) (Or.inl ⟨by rfl, ?_⟩) ?_ ?_
        rotate_left
        ·intro w'
         go_simp
         with_reducible rfl
        rotate_left
        ·simp only [Act.put, zS, z0, z1, i64_w, i32_w]
         rfl
        refine take_ (i := 3) (N := some 20) (v := ?_) (a' := ?_) #[true, true, true, true, true, true, true, false, false, false] rfl rfl (take_ofW HT_.out HW_.out (by kernel_rfl)) (fun _ _ _ h => h) (Or.inl ⟨by rfl, ?_⟩) hHeld ?_ ?_
        rotate_left
        ·rintro w' ⟨s0, s1, s2, s3, s4, s5, s6, s7, s8, s9, s10, s11, s12, s13, s14, s15⟩
         go_simp
         with_reducible rfl
        rotate_left
        ·simp only [Act.put, zS, z0, z1, i64_w, i32_w]
         rfl
        refine take_ (i := 7) (N := some 24) (v := ?_) (a' := ?_) #[true, true, true, true, true, true, true, true, false, false] rfl rfl (take_ofW HT_.out HW_.out (by kernel_rfl)) (fun _ _ _ h => h) (Or.inl ⟨by rfl, ?_⟩) hHeld ?_ ?_
        rotate_left
        ·rintro w' ⟨s0, s1, s2, s3, s4, s5, s6, s7, s8, s9, s10, s11, s12, s13, s14, s15⟩
         go_simp
         with_reducible rfl
        rotate_left
        ·simp only [Act.put, zS, z0, z1, i64_w, i32_w]
         rfl
        refine one_ (i := 8) (N := some 25) #[true, true, true, true, true, true, true, true, true, false] rfl rfl (one_of HT_.out (by kernel_rfl)) (by decide) (fun K hK => ?_)
        refine goes_ Try.func20 (by kernel_rfl) rfl #[.agg #[.int .i64 ((rd_T32 l0 x5_1).f0), .int .i64 ((rd_T32 l0 x5_1).f1), .int .i64 ((rd_T32 l0 x5_1).f2), .int .i64 ((rd_T32 l0 x5_1).f3), .int .i64 ((rd_T32 l0 x5_1).f4.f0), .int .i64 ((rd_T32 l0 x5_1).f4.f1), .int .i64 ((rd_T32 l0 x5_1).f5), .string ((rd_T32 l0 x5_1).f6)], .agg #[.int .i64 ((rd_T32 l1 x5_1).f0), .int .i64 ((rd_T32 l1 x5_1).f1), .int .i64 ((rd_T32 l1 x5_1).f2), .int .i64 ((rd_T32 l1 x5_1).f3), .int .i64 ((rd_T32 l1 x5_1).f4.f0), .int .i64 ((rd_T32 l1 x5_1).f4.f1), .int .i64 ((rd_T32 l1 x5_1).f5), .string ((rd_T32 l1 x5_1).f6)]] (by rfl) rfl rfl (by (try simp only [List.map_toArray, List.map_cons, List.map_nil]); first | done | rfl) ?_
        with_reducible refine (laws_eqMsg.calls ((rd_T32 l0 x5_1).f0) ((rd_T32 l0 x5_1).f1) ((rd_T32 l0 x5_1).f2) ((rd_T32 l0 x5_1).f3) ((rd_T32 l0 x5_1).f4.f0) ((rd_T32 l0 x5_1).f4.f1) ((rd_T32 l0 x5_1).f5) ((rd_T32 l0 x5_1).f6) ((rd_T32 l1 x5_1).f0) ((rd_T32 l1 x5_1).f1) ((rd_T32 l1 x5_1).f2) ((rd_T32 l1 x5_1).f3) ((rd_T32 l1 x5_1).f4.f0) ((rd_T32 l1 x5_1).f4.f1) ((rd_T32 l1 x5_1).f5) ((rd_T32 l1 x5_1).f6) true _ A7.out).mono ?_
        rintro e w10 ⟨rfl, hb⟩
        refine ⟨_, rfl, ?_⟩
        have n0_ := zM (bG (by repeat (first | (with_reducible first | exact HB.out | apply bE | apply bD | apply bF) | exact HB.out)) hb)
        clear HB
        have HB := n0_
        clear n0_
        (try clear hb)
        (try clear hb2)
        (try clear hk)
        (try clear hi)
        refine hK.out _ _ ⟨((HB.out.cell (World.block_lt_of_cell? w _ hw114_0)).trans hw114_0), ((HB.out.cell (World.block_lt_of_cell? w _ hw114_1)).trans hw114_1), ((HB.out.cell (World.block_lt_of_cell? w _ hw114_2)).trans hw114_2), ((HB.out.cell (World.block_lt_of_cell? w _ hw114_3)).trans hw114_3), ((HB.out.cell (World.block_lt_of_cell? w _ hw114_4)).trans hw114_4), ((HB.out.cell (World.block_lt_of_cell? w _ hw114_5)).trans hw114_5), ((HB.out.cell (World.block_lt_of_cell? w _ hw114_6)).trans hw114_6), ((HB.out.cell (World.block_lt_of_cell? w _ hw114_7)).trans hw114_7), ((HB.out.cell (World.block_lt_of_cell? w _ hw115_0)).trans hw115_0), ((HB.out.cell (World.block_lt_of_cell? w _ hw115_1)).trans hw115_1), ((HB.out.cell (World.block_lt_of_cell? w _ hw115_2)).trans hw115_2), ((HB.out.cell (World.block_lt_of_cell? w _ hw115_3)).trans hw115_3), ((HB.out.cell (World.block_lt_of_cell? w _ hw115_4)).trans hw115_4), ((HB.out.cell (World.block_lt_of_cell? w _ hw115_5)).trans hw115_5), ((HB.out.cell (World.block_lt_of_cell? w _ hw115_6)).trans hw115_6), ((HB.out.cell (World.block_lt_of_cell? w _ hw115_7)).trans hw115_7)⟩ (fun hHeld => ?_)
        clear hK K
        refine norm_ (a' := ?_) ?_ ?_
        rotate_left
        ·show Act.put _ (some 25) _ = _
         simp only [Act.put, zS, z0, z1, i64_w, i32_w]
         rfl
        refine pure_ (i := 9) (N := some 26) (v := ?_) (a' := ?_) #[true, true, true, true, true, true, true, true, true, true] rfl rfl (any_of HT_.out (by kernel_rfl)) (fun _ _ _ h => h) (Or.inl ⟨by rfl, ?_⟩) ?_ ?_
        rotate_left
        ·intro w'
         go_simp
         with_reducible rfl
        rotate_left
        ·simp only [Act.put, zS, z0, z1, i64_w, i32_w]
         rfl
        refine done_ (done_of HT_.out (by kernel_rfl)) ?_
        try go_wp2
        go_roundg k1
        case measure => have := HK1.out; omega
        case rel => exact ⟨(wrap64 (x5_1 + 1)), (by first | rfl | (simp; done) | (simp [*]; done)), H', ⟨by have := HK1.out; omega⟩, ⟨by repeat (first | (with_reducible first | exact HB.out | apply bE | apply bD | apply bF) | exact HB.out)⟩⟩
       ·replace c8 := Bool.eq_false_iff.mpr c8
        subst c8
        have H1 : (some false) = some r := by rw [if_neg (show ¬ (false = true) by decide)] at H; exact H
        clear H
        have H := H1
        clear H1
        obtain rfl := Option.some.inj H
        simp only [zI, zJ] at H
        obtain ⟨rfl⟩ := H
        try go_wp2
        have n0_ := zM (bF HB.out)
        clear HB
        have HB := n0_
        clear n0_
        have p114 : 0 ≤ (x5_1 : Int) := of_decide_eq_true (by first | (with_reducible assumption) | assumption)
        have q114 : x5_1 < (l0.length : Int) := of_decide_eq_true (by first | (with_reducible assumption) | assumption)
        obtain ⟨ad114, e114, hx114_0, hx114_1, hx114_2, hx114_3, hx114_4, hx114_5, hx114_6, hx114_7⟩ := at_T32 HR0.out x5_1 p114 q114
        have hw114_7 := hx114_7
        have hw114_6 := hx114_6
        have hw114_5 := hx114_5
        have hw114_4 := hx114_4
        have hw114_3 := hx114_3
        have hw114_2 := hx114_2
        have hw114_1 := hx114_1
        have hw114_0 := hx114_0
        cases e114
        replace hx114_0 := (HB.out.cell (World.block_lt_of_cell? w _ hx114_0)).trans hx114_0
        replace hx114_1 := (HB.out.cell (World.block_lt_of_cell? w _ hx114_1)).trans hx114_1
        replace hx114_2 := (HB.out.cell (World.block_lt_of_cell? w _ hx114_2)).trans hx114_2
        replace hx114_3 := (HB.out.cell (World.block_lt_of_cell? w _ hx114_3)).trans hx114_3
        replace hx114_4 := (HB.out.cell (World.block_lt_of_cell? w _ hx114_4)).trans hx114_4
        replace hx114_5 := (HB.out.cell (World.block_lt_of_cell? w _ hx114_5)).trans hx114_5
        replace hx114_6 := (HB.out.cell (World.block_lt_of_cell? w _ hx114_6)).trans hx114_6
        replace hx114_7 := (HB.out.cell (World.block_lt_of_cell? w _ hx114_7)).trans hx114_7
        replace p114 := eq_true p114
        replace q114 := eq_true q114
        have p115 : 0 ≤ (x5_1 : Int) := of_decide_eq_true (by first | (with_reducible assumption) | assumption)
        have q115 : x5_1 < (l1.length : Int) := of_decide_eq_true (by first | (with_reducible assumption) | assumption)
        obtain ⟨ad115, e115, hx115_0, hx115_1, hx115_2, hx115_3, hx115_4, hx115_5, hx115_6, hx115_7⟩ := at_T32 HR1.out x5_1 p115 q115
        have hw115_7 := hx115_7
        have hw115_6 := hx115_6
        have hw115_5 := hx115_5
        have hw115_4 := hx115_4
        have hw115_3 := hx115_3
        have hw115_2 := hx115_2
        have hw115_1 := hx115_1
        have hw115_0 := hx115_0
        cases e115
        replace hx115_0 := (HB.out.cell (World.block_lt_of_cell? w _ hx115_0)).trans hx115_0
        replace hx115_1 := (HB.out.cell (World.block_lt_of_cell? w _ hx115_1)).trans hx115_1
        replace hx115_2 := (HB.out.cell (World.block_lt_of_cell? w _ hx115_2)).trans hx115_2
        replace hx115_3 := (HB.out.cell (World.block_lt_of_cell? w _ hx115_3)).trans hx115_3
        replace hx115_4 := (HB.out.cell (World.block_lt_of_cell? w _ hx115_4)).trans hx115_4
        replace hx115_5 := (HB.out.cell (World.block_lt_of_cell? w _ hx115_5)).trans hx115_5
        replace hx115_6 := (HB.out.cell (World.block_lt_of_cell? w _ hx115_6)).trans hx115_6
        replace hx115_7 := (HB.out.cell (World.block_lt_of_cell? w _ hx115_7)).trans hx115_7
        replace p115 := eq_true p115
        replace q115 := eq_true q115
        refine start_ (n := 10) (S := fun w' => w'.cell? (ad114.add ((x5_1).toNat * 8)) = some (.int .i64 ((rd_T32 l0 x5_1).f0)) ∧ w'.cell? ⟨(ad114.add ((x5_1).toNat * 8)).block, (ad114.add ((x5_1).toNat * 8)).off + 1, none⟩ = some (.int .i64 ((rd_T32 l0 x5_1).f1)) ∧ w'.cell? ⟨(ad114.add ((x5_1).toNat * 8)).block, (ad114.add ((x5_1).toNat * 8)).off + 2, none⟩ = some (.int .i64 ((rd_T32 l0 x5_1).f2)) ∧ w'.cell? ⟨(ad114.add ((x5_1).toNat * 8)).block, (ad114.add ((x5_1).toNat * 8)).off + 3, none⟩ = some (.int .i64 ((rd_T32 l0 x5_1).f3)) ∧ w'.cell? ⟨(ad114.add ((x5_1).toNat * 8)).block, (ad114.add ((x5_1).toNat * 8)).off + 4, none⟩ = some (.int .i64 ((rd_T32 l0 x5_1).f4.f0)) ∧ w'.cell? ⟨(ad114.add ((x5_1).toNat * 8)).block, (ad114.add ((x5_1).toNat * 8)).off + 5, none⟩ = some (.int .i64 ((rd_T32 l0 x5_1).f4.f1)) ∧ w'.cell? ⟨(ad114.add ((x5_1).toNat * 8)).block, (ad114.add ((x5_1).toNat * 8)).off + 6, none⟩ = some (.int .i64 ((rd_T32 l0 x5_1).f5)) ∧ w'.cell? ⟨(ad114.add ((x5_1).toNat * 8)).block, (ad114.add ((x5_1).toNat * 8)).off + 7, none⟩ = some (.string ((rd_T32 l0 x5_1).f6)) ∧ w'.cell? (ad115.add ((x5_1).toNat * 8)) = some (.int .i64 ((rd_T32 l1 x5_1).f0)) ∧ w'.cell? ⟨(ad115.add ((x5_1).toNat * 8)).block, (ad115.add ((x5_1).toNat * 8)).off + 1, none⟩ = some (.int .i64 ((rd_T32 l1 x5_1).f1)) ∧ w'.cell? ⟨(ad115.add ((x5_1).toNat * 8)).block, (ad115.add ((x5_1).toNat * 8)).off + 2, none⟩ = some (.int .i64 ((rd_T32 l1 x5_1).f2)) ∧ w'.cell? ⟨(ad115.add ((x5_1).toNat * 8)).block, (ad115.add ((x5_1).toNat * 8)).off + 3, none⟩ = some (.int .i64 ((rd_T32 l1 x5_1).f3)) ∧ w'.cell? ⟨(ad115.add ((x5_1).toNat * 8)).block, (ad115.add ((x5_1).toNat * 8)).off + 4, none⟩ = some (.int .i64 ((rd_T32 l1 x5_1).f4.f0)) ∧ w'.cell? ⟨(ad115.add ((x5_1).toNat * 8)).block, (ad115.add ((x5_1).toNat * 8)).off + 5, none⟩ = some (.int .i64 ((rd_T32 l1 x5_1).f4.f1)) ∧ w'.cell? ⟨(ad115.add ((x5_1).toNat * 8)).block, (ad115.add ((x5_1).toNat * 8)).off + 6, none⟩ = some (.int .i64 ((rd_T32 l1 x5_1).f5)) ∧ w'.cell? ⟨(ad115.add ((x5_1).toNat * 8)).block, (ad115.add ((x5_1).toNat * 8)).off + 7, none⟩ = some (.string ((rd_T32 l1 x5_1).f6))) (ds := []) #[false, false, false, false, false, false, false, false, false, false] (by kernel_rfl) rfl rfl ⟨((HB.out.cell (World.block_lt_of_cell? w _ hw114_0)).trans hw114_0), ((HB.out.cell (World.block_lt_of_cell? w _ hw114_1)).trans hw114_1), ((HB.out.cell (World.block_lt_of_cell? w _ hw114_2)).trans hw114_2), ((HB.out.cell (World.block_lt_of_cell? w _ hw114_3)).trans hw114_3), ((HB.out.cell (World.block_lt_of_cell? w _ hw114_4)).trans hw114_4), ((HB.out.cell (World.block_lt_of_cell? w _ hw114_5)).trans hw114_5), ((HB.out.cell (World.block_lt_of_cell? w _ hw114_6)).trans hw114_6), ((HB.out.cell (World.block_lt_of_cell? w _ hw114_7)).trans hw114_7), ((HB.out.cell (World.block_lt_of_cell? w _ hw115_0)).trans hw115_0), ((HB.out.cell (World.block_lt_of_cell? w _ hw115_1)).trans hw115_1), ((HB.out.cell (World.block_lt_of_cell? w _ hw115_2)).trans hw115_2), ((HB.out.cell (World.block_lt_of_cell? w _ hw115_3)).trans hw115_3), ((HB.out.cell (World.block_lt_of_cell? w _ hw115_4)).trans hw115_4), ((HB.out.cell (World.block_lt_of_cell? w _ hw115_5)).trans hw115_5), ((HB.out.cell (World.block_lt_of_cell? w _ hw115_6)).trans hw115_6), ((HB.out.cell (World.block_lt_of_cell? w _ hw115_7)).trans hw115_7)⟩ (fun hHeld => ?_); refine with_tabW laws_eqMsgS.tab6 laws_eqMsgS.bits6 (fun HT_ HW_ => ?_)
        generalize wr.drew = w11 at HB hx114_0 hx114_1 hx114_2 hx114_3 hx114_4 hx114_5 hx114_6 hx114_7 hx115_0 hx115_1 hx115_2 hx115_3 hx115_4 hx115_5 hx115_6 hx115_7 hHeld ⊢
        refine pure_ (i := 0) (N := some 17) (v := ?_) (a' := ?_) #[true, false, false, false, false, false, false, false, false, false] rfl rfl (any_of HT_.out (by kernel_rfl)) (fun _ _ _ h => h) (Or.inl ⟨by rfl, ?_⟩) ?_ ?_
        rotate_left
        ·intro w'
         go_simp
         with_reducible rfl
        rotate_left
        ·simp only [Act.put, zS, z0, z1, i64_w, i32_w]
         rfl
        refine pure_ (i := 1) (N := some 18) (v := ?_) (a' := ?_) #[true, true, false, false, false, false, false, false, false, false] rfl rfl (any_of HT_.out (by kernel_rfl)) (fun _ _ _ h => h) (Or.inl ⟨by rfl, ?_⟩) ?_ ?_
        rotate_left
        ·intro w'
         go_simp
         with_reducible rfl
        rotate_left
        ·simp only [Act.put, zS, z0, z1, i64_w, i32_w]
         rfl
        refine pure_ (i := 2) (N := some 19) (v := ?_) (a' := ?_) #[true, true, true, false, false, false, false, false, false, false] rfl rfl (any_of HT_.out (by kernel_rfl)) (fun _ _ _ h => h) (Or.inl ⟨by rfl, ?_⟩) ?_ ?_
        rotate_left
        ·intro w'
         go_simp
         with_reducible rfl
        rotate_left
        ·simp only [Act.put, zS, z0, z1, i64_w, i32_w]
         rfl
        refine pure_ (i := 4) (N := some 21) (v := ?_) (a' := ?_) #[true, true, true, false, true, false, false, false, false, false] rfl rfl (any_of HT_.out (by kernel_rfl)) (fun _ _ _ h => h) (Or.inl ⟨by rfl, ?_⟩) ?_ ?_
        rotate_left
        ·intro w'
         go_simp
         with_reducible rfl
        rotate_left
        ·simp only [Act.put, zS, z0, z1, i64_w, i32_w]
         rfl
        refine pure_ (i := 5) (N := some 22) (v := ?_) (a' := ?_) #[true, true, true, false, true, true, false, false, false, false] rfl rfl (any_of HT_.out (by kernel_rfl)) (fun _ _ _ h => h) (Or.inl ⟨by rfl, ?_⟩) ?_ ?_
        rotate_left
        ·intro w'
         go_simp
         with_reducible rfl
        rotate_left
        ·simp only [Act.put, zS, z0, z1, i64_w, i32_w]
         rfl
        refine pure_ (i := 6) (N := some 23) (v := ?_) (a' := ?_) #[true, true, true, false, true, true, true, false, false, false] rfl rfl (any_of HT_.out (by kernel_rfl)) (fun _ _ _ h => h) (Or.inl ⟨by rfl, ?_⟩) ?_ ?_
        rotate_left
        ·intro w'
         go_simp
         with_reducible rfl
        rotate_left
        ·simp only [Act.put, zS, z0, z1, i64_w, i32_w]
         rfl
        refine take_ (i := 3) (N := some 20) (v := ?_) (a' := ?_) #[true, true, true, true, true, true, true, false, false, false] rfl rfl (take_ofW HT_.out HW_.out (by kernel_rfl)) (fun _ _ _ h => h) (Or.inl ⟨by rfl, ?_⟩) hHeld ?_ ?_
        rotate_left
        ·rintro w' ⟨s0, s1, s2, s3, s4, s5, s6, s7, s8, s9, s10, s11, s12, s13, s14, s15⟩
         go_simp
         with_reducible rfl
        rotate_left
        ·simp only [Act.put, zS, z0, z1, i64_w, i32_w]
         rfl
        refine take_ (i := 7) (N := some 24) (v := ?_) (a' := ?_) #[true, true, true, true, true, true, true, true, false, false] rfl rfl (take_ofW HT_.out HW_.out (by kernel_rfl)) (fun _ _ _ h => h) (Or.inl ⟨by rfl, ?_⟩) hHeld ?_ ?_
        rotate_left
        ·rintro w' ⟨s0, s1, s2, s3, s4, s5, s6, s7, s8, s9, s10, s11, s12, s13, s14, s15⟩
         go_simp
         with_reducible rfl
        rotate_left
        ·simp only [Act.put, zS, z0, z1, i64_w, i32_w]
         rfl
        refine one_ (i := 8) (N := some 25) #[true, true, true, true, true, true, true, true, true, false] rfl rfl (one_of HT_.out (by kernel_rfl)) (by decide) (fun K hK => ?_)
        refine goes_ Try.func20 (by kernel_rfl) rfl #[.agg #[.int .i64 ((rd_T32 l0 x5_1).f0), .int .i64 ((rd_T32 l0 x5_1).f1), .int .i64 ((rd_T32 l0 x5_1).f2), .int .i64 ((rd_T32 l0 x5_1).f3), .int .i64 ((rd_T32 l0 x5_1).f4.f0), .int .i64 ((rd_T32 l0 x5_1).f4.f1), .int .i64 ((rd_T32 l0 x5_1).f5), .string ((rd_T32 l0 x5_1).f6)], .agg #[.int .i64 ((rd_T32 l1 x5_1).f0), .int .i64 ((rd_T32 l1 x5_1).f1), .int .i64 ((rd_T32 l1 x5_1).f2), .int .i64 ((rd_T32 l1 x5_1).f3), .int .i64 ((rd_T32 l1 x5_1).f4.f0), .int .i64 ((rd_T32 l1 x5_1).f4.f1), .int .i64 ((rd_T32 l1 x5_1).f5), .string ((rd_T32 l1 x5_1).f6)]] (by rfl) rfl rfl (by (try simp only [List.map_toArray, List.map_cons, List.map_nil]); first | done | rfl) ?_
        with_reducible refine (laws_eqMsg.calls ((rd_T32 l0 x5_1).f0) ((rd_T32 l0 x5_1).f1) ((rd_T32 l0 x5_1).f2) ((rd_T32 l0 x5_1).f3) ((rd_T32 l0 x5_1).f4.f0) ((rd_T32 l0 x5_1).f4.f1) ((rd_T32 l0 x5_1).f5) ((rd_T32 l0 x5_1).f6) ((rd_T32 l1 x5_1).f0) ((rd_T32 l1 x5_1).f1) ((rd_T32 l1 x5_1).f2) ((rd_T32 l1 x5_1).f3) ((rd_T32 l1 x5_1).f4.f0) ((rd_T32 l1 x5_1).f4.f1) ((rd_T32 l1 x5_1).f5) ((rd_T32 l1 x5_1).f6) false _ A7.out).mono ?_
        rintro e w12 ⟨rfl, hb⟩
        refine ⟨_, rfl, ?_⟩
        have n0_ := zM (bG (by repeat (first | (with_reducible first | exact HB.out | apply bE | apply bD | apply bF) | exact HB.out)) hb)
        clear HB
        have HB := n0_
        clear n0_
        (try clear hb)
        (try clear hb2)
        (try clear hk)
        (try clear hi)
        refine hK.out _ _ ⟨((HB.out.cell (World.block_lt_of_cell? w _ hw114_0)).trans hw114_0), ((HB.out.cell (World.block_lt_of_cell? w _ hw114_1)).trans hw114_1), ((HB.out.cell (World.block_lt_of_cell? w _ hw114_2)).trans hw114_2), ((HB.out.cell (World.block_lt_of_cell? w _ hw114_3)).trans hw114_3), ((HB.out.cell (World.block_lt_of_cell? w _ hw114_4)).trans hw114_4), ((HB.out.cell (World.block_lt_of_cell? w _ hw114_5)).trans hw114_5), ((HB.out.cell (World.block_lt_of_cell? w _ hw114_6)).trans hw114_6), ((HB.out.cell (World.block_lt_of_cell? w _ hw114_7)).trans hw114_7), ((HB.out.cell (World.block_lt_of_cell? w _ hw115_0)).trans hw115_0), ((HB.out.cell (World.block_lt_of_cell? w _ hw115_1)).trans hw115_1), ((HB.out.cell (World.block_lt_of_cell? w _ hw115_2)).trans hw115_2), ((HB.out.cell (World.block_lt_of_cell? w _ hw115_3)).trans hw115_3), ((HB.out.cell (World.block_lt_of_cell? w _ hw115_4)).trans hw115_4), ((HB.out.cell (World.block_lt_of_cell? w _ hw115_5)).trans hw115_5), ((HB.out.cell (World.block_lt_of_cell? w _ hw115_6)).trans hw115_6), ((HB.out.cell (World.block_lt_of_cell? w _ hw115_7)).trans hw115_7)⟩ (fun hHeld => ?_)
        clear hK K
        refine norm_ (a' := ?_) ?_ ?_
        rotate_left
        ·show Act.put _ (some 25) _ = _
         simp only [Act.put, zS, z0, z1, i64_w, i32_w]
         rfl
        refine pure_ (i := 9) (N := some 26) (v := ?_) (a' := ?_) #[true, true, true, true, true, true, true, true, true, true] rfl rfl (any_of HT_.out (by kernel_rfl)) (fun _ _ _ h => h) (Or.inl ⟨by rfl, ?_⟩) ?_ ?_
        rotate_left
        ·intro w'
         go_simp
         with_reducible rfl
        rotate_left
        ·simp only [Act.put, zS, z0, z1, i64_w, i32_w]
         rfl
        refine done_ (done_of HT_.out (by kernel_rfl)) ?_
        try go_wp2
        go_ret
        exact ⟨by first | rfl | (simp [*, errW_none, errW_some] <;> rfl), by repeat (first | (with_reducible first | exact HB.out | apply bE | apply bD | apply bF) | exact HB.out)⟩
      ·rw [if_neg c6] at H
       exact absurd H (by simp)
     ·rw [if_neg c5] at H
      exact absurd H (by simp)
    ·rw [if_neg c4] at H
     have c4b0 : decide (x5_1 < (l0.length : Int)) = false := decide_eq_false c4
     clear c4
     obtain rfl := Option.some.inj H
     simp only [zI, zJ] at H
     obtain ⟨rfl⟩ := H
     go_wp2
     go_ret
     exact ⟨by first | rfl | (simp [*, errW_none, errW_some] <;> rfl), by repeat (first | (with_reducible first | exact HB.out | apply bE | apply bD | apply bF) | exact HB.out)⟩
 ·rw [if_neg c3] at H
  have c3b0 : ((l0.length : Int) == (l1.length : Int)) = false := beq_eq_false_iff_ne.mpr c3
  have c3b1 : ((l0.length : Int) != (l1.length : Int)) = true := bne_iff_ne.mpr c3
  have c3b2 : (l0.length == l1.length) = false := by first | simpa using c3 | (simp at c3 ⊢; omega)
  obtain rfl := Option.some.inj H
  simp only [zI, zJ] at H
  obtain ⟨rfl⟩ := H
  go_enter Try.func29, Try.ntmps29
  go_wp2
  go_ret
  exact ⟨by first | rfl | (simp [*, errW_none, errW_some] <;> rfl), by repeat (first | (with_reducible first | exact HB.out | apply bE | apply bD | apply bF) | exact HB.out)⟩

/-! ### laws_markText: function 57 -/
def laws_markText.l0 : Nat → Int → ByteArray → Option (ByteArray)
 | 0, _, _ => none
 | k + 1, x0, x3 => if x0 > 0 then ((some (([(wrap64 (48 + (Int.tmod x0 10))) % 256] : List Int) : List Int)).bind fun y117 => (if (strOfNums y117).size + x3.size ≤ 9223372036854775807 then (laws_markText.l0 k (wrap64 (Int.tdiv x0 10)) ((strOfNums y117) ++ x3)) else (none))) else (if 1 + x3.size ≤ 9223372036854775807 then (some ((⟨#[109]⟩ : ByteArray) ++ x3)) else (none))
def laws_markText.f (k : Nat) (a0 : Int) : Option (ByteArray) := if a0 ≤ 0 then (some (⟨#[109, 48]⟩ : ByteArray)) else (laws_markText.l0 k a0 (⟨#[]⟩ : ByteArray))
theorem laws_markText.mono_l : ∀ k, (∀ y0 y1, LeO (laws_markText.l0 k y0 y1) (laws_markText.l0 (k + 1) y0 y1))
 | 0 => fun _ _ r h => by simp [laws_markText.l0] at h
 | k + 1 => by
  have ih0 := laws_markText.mono_l k
  ·intro y0 y1
   unfold laws_markText.l0
   repeat' first
   | (with_reducible exact ih0 _ _)
   | (with_reducible exact LeO.refl _)
   | (with_reducible exact LeO.none _)
   | (with_reducible refine LeO.ite ?_ ?_)
   | (with_reducible refine LeO.bind ?_ (fun _ => ?_))
   | exact ih0 _ _
   | exact LeO.none _
   | refine LeO.ite ?_ ?_
   | refine LeO.bind ?_ (fun _ => ?_)
theorem laws_markText.mono : ∀ a0 k, LeO (laws_markText.f k a0) (laws_markText.f (k + 1) a0) := by
 intro a0 k
 have ih0 := laws_markText.mono_l k
 unfold laws_markText.f
 repeat' first
   | (with_reducible exact ih0 _ _)
   | (with_reducible exact LeO.refl _)
   | (with_reducible exact LeO.none _)
   | (with_reducible refine LeO.ite ?_ ?_)
   | (with_reducible refine LeO.bind ?_ (fun _ => ?_))
   | exact ih0 _ _
   | exact LeO.none _
   | refine LeO.ite ?_ ?_
   | refine LeO.bind ?_ (fun _ => ?_)
theorem laws_markText.calls (k : Nat) (a0 : Int) (r : ByteArray) (w : World) (h : laws_markText.f k a0 = some r) :
  Calls Try.prog 57 #[.int .i64 a0] w fun e w' => e = .returned (.string r) ∧ Below w.heap.size w w' := by
 have HB := zM (Below.refl w.heap.size w)
 have H : (if a0 ≤ 0 then (some (⟨#[109, 48]⟩ : ByteArray)) else (laws_markText.l0 k a0 (⟨#[]⟩ : ByteArray))) = some r := h
 clear h
 by_cases c2 : a0 ≤ 0
 ·rw [if_pos c2] at H
  have c2b0 : decide (a0 ≤ 0) = true := decide_eq_true c2
  clear c2
  obtain rfl := Option.some.inj H
  simp only [zI, zJ] at H
  obtain ⟨rfl⟩ := H
  go_enter Try.func57, Try.ntmps57
  go_wp2
  go_ret
  exact ⟨by first | rfl | (simp [*, errW_none, errW_some] <;> rfl), by repeat (first | (with_reducible first | exact HB.out | apply bE | apply bD | apply bF) | exact HB.out)⟩
 ·rw [if_neg c2] at H
  have c2b0 : decide (a0 ≤ 0) = false := decide_eq_false c2
  clear c2
  have H' := zM H
  clear H
  go_enter Try.func57, Try.ntmps57
  go_wp2
  go_loopg [0, 3] k (fun kq v0 v3 w' => ∃ (x0_1 : Int) (x3_1 : ByteArray), v0 = .int .i64 x0_1 ∧ v3 = .string x3_1 ∧ Aside0 (laws_markText.l0 kq x0_1 x3_1 = some r) ∧ Aside0 (kq ≤ k) ∧ Aside0 (Below w.heap.size w w'))
  case atStart => exact ⟨(a0), ((⟨#[]⟩ : ByteArray)), (by first | rfl | (simp; done) | (simp [*]; done)), (by first | rfl | (simp; done) | (simp [*]; done)), H', ⟨Nat.le_refl _⟩, ⟨by repeat (first | (with_reducible first | exact HB.out | apply bE | apply bD | apply bF) | exact HB.out)⟩⟩
  case round =>
   clear H'
   try clear c2
   try clear c2b0
   try clear p2
   obtain ⟨x0_1, x3_1, rfl, rfl, HA, HK1, HB⟩ := hrel
   cases gk with
   | zero => exact absurd HA.out (by simp [laws_markText.l0])
   | succ k1 =>
    have H := HA.out
    clear HA
    simp only [laws_markText.l0] at H
    by_cases c3 : x0_1 > 0
    ·rw [if_pos c3] at H
     have c3b0 : decide (0 < x0_1) = true := decide_eq_true c3
     clear c3
     obtain ⟨y117, hy117⟩ : ∃ y_ : List Int, y_ = (([(wrap64 (48 + (Int.tmod x0_1 10))) % 256] : List Int)) := ⟨_, rfl⟩
     replace H : (if (strOfNums y117).size + x3_1.size ≤ 9223372036854775807 then (laws_markText.l0 k1 (wrap64 (Int.tdiv x0_1 10)) ((strOfNums y117) ++ x3_1)) else (none)) = some r := by first | (rw [hy117]; with_reducible exact H) | (have H2_ := (Option.bind_some _ _).symm.trans H; rw [hy117]; with_reducible exact H2_) | (have H2_ := (Option.bind_some _ _).symm.trans H; with_reducible exact H2_) | with_reducible exact H | (rw [hy117]; exact H) | exact H
     have Ny117 := zM hy117
     clear hy117
     by_cases c4 : (strOfNums y117).size + x3_1.size ≤ 9223372036854775807
     ·rw [if_pos c4] at H
      have c4b0 := eq_true c4
      have c4b1 : decide ((strOfNums y117).size + x3_1.size ≤ 9223372036854775807) = true := decide_eq_true c4
      try have c4b2 : (9223372036854775807 < (strOfNums y117).size + x3_1.size) = False := eq_false (Nat.not_lt.2 c4)
      have H' := zM H
      clear H
      go_wp2_with (first | ((with_reducible refine gate_dst (N := 12) rfl ?_); refine Kd.R_lit (Kd.int .u8) _ 5 ?hg (N := 12) ?hd (xs := ([(wrap64 (48 + (Int.tmod x0_1 10))) % 256] : List Int)) (inner := [.int .u8 ((wrap64 (48 + (Int.tmod x0_1 10))) % 256)]) (ok := fun _ => True) (okp := fun _ => True) ?hr ?hp (fun _ hk => hk) trivial (Below.refl _ _) (Nat.le_refl _) (by simp) ?_; (case hd => rfl); (case hg => rfl); (case hr => first | (go_simp; done) | (go_simp; rfl)); (case hp => exact (Reps.one (show Kd.M (Kd.int .u8) _ _ _ ((wrap64 (48 + (Int.tmod x0_1 10))) % 256) [.int .u8 ((wrap64 (48 + (Int.tmod x0_1 10))) % 256)] from rfl) (Reps.none _ _))); intro v118 w5 ho6 hb hg_ hnew_; clear hg_ hnew_; (first | rw [← Ny117.out] at ho6 | (simp only [Int.reduceToNat] at ho6; rw [← Ny117.out] at ho6)); have n0_ := zM (Kd.R_lower ho6 (below_size (by repeat (first | (with_reducible first | exact HB.out | apply bE | apply bD | apply bF) | exact HB.out)))); have n1_ := zM (bG (by repeat (first | (with_reducible first | exact HB.out | apply bE | apply bD | apply bF) | exact HB.out)) hb); clear HB; have HO119 := n0_; have HB := n1_; clear n0_ n1_; clear hb ho6; have hcv7 := own_string (P := Try.prog) Try.underlying27 Try.underlying5 Try.underlying9 (Kd.own_of_R HO119.out)))
      go_roundg k1
      case measure => have := HK1.out; omega
      case rel => exact ⟨(wrap64 (Int.tdiv x0_1 10)), ((strOfNums y117) ++ x3_1), (by first | rfl | (simp; done) | (simp [*]; done)), (by first | rfl | (simp; done) | (simp [*]; done)), H', ⟨by have := HK1.out; omega⟩, ⟨by repeat (first | (with_reducible first | exact HB.out | apply bE | apply bD | apply bF) | exact HB.out)⟩⟩
     ·rw [if_neg c4] at H
      exact absurd H (by simp)
    ·rw [if_neg c3] at H
     have c3b0 : decide (0 < x0_1) = false := decide_eq_false c3
     clear c3
     by_cases c8 : 1 + x3_1.size ≤ 9223372036854775807
     ·rw [if_pos c8] at H
      have c8b0 := eq_true c8
      have c8b1 : decide (1 + x3_1.size ≤ 9223372036854775807) = true := decide_eq_true c8
      try have c8b2 : (9223372036854775807 < 1 + x3_1.size) = False := eq_false (Nat.not_lt.2 c8)
      obtain rfl := Option.some.inj H
      simp only [zI, zJ] at H
      obtain ⟨rfl⟩ := H
      go_wp2
      go_ret
      exact ⟨by first | rfl | (simp [*, errW_none, errW_some] <;> rfl), by repeat (first | (with_reducible first | exact HB.out | apply bE | apply bD | apply bF) | exact HB.out)⟩
     ·rw [if_neg c8] at H
      exact absurd H (by simp)

/-! ### laws_markMsgS: function 30 -/
def laws_markMsgS.l0 : Nat → List (S32) → Int → Int → Option (Int × (List (S32)))
 | 0, _, _, _ => none
 | k + 1, x0, x1, x5 => if x5 < (x0.length : Int) then (if 0 ≤ x5 then ((some (x0.set (x5 : Int).toNat (⟨x1, (rd_T32 x0 x5).f1, (rd_T32 x0 x5).f2, (rd_T32 x0 x5).f3, (⟨(rd_T32 x0 x5).f4.f0, (rd_T32 x0 x5).f4.f1⟩ : S30), (rd_T32 x0 x5).f5, (rd_T32 x0 x5).f6⟩ : S32) : List (S32))).bind fun y120 => ((some (y120.set (x5 : Int).toNat (⟨(rd_T32 y120 x5).f0, wrap64 (x1 + 1), (rd_T32 y120 x5).f2, (rd_T32 y120 x5).f3, (⟨(rd_T32 y120 x5).f4.f0, (rd_T32 y120 x5).f4.f1⟩ : S30), (rd_T32 y120 x5).f5, (rd_T32 y120 x5).f6⟩ : S32) : List (S32))).bind fun y121 => ((some (y121.set (x5 : Int).toNat (⟨(rd_T32 y121 x5).f0, (rd_T32 y121 x5).f1, wrap64 ((wrap64 (x1 + 1)) + 1), (rd_T32 y121 x5).f3, (⟨(rd_T32 y121 x5).f4.f0, (rd_T32 y121 x5).f4.f1⟩ : S30), (rd_T32 y121 x5).f5, (rd_T32 y121 x5).f6⟩ : S32) : List (S32))).bind fun y122 => ((some (y122.set (x5 : Int).toNat (⟨(rd_T32 y122 x5).f0, (rd_T32 y122 x5).f1, (rd_T32 y122 x5).f2, wrap64 ((wrap64 ((wrap64 (x1 + 1)) + 1)) + 1), (⟨(rd_T32 y122 x5).f4.f0, (rd_T32 y122 x5).f4.f1⟩ : S30), (rd_T32 y122 x5).f5, (rd_T32 y122 x5).f6⟩ : S32) : List (S32))).bind fun y123 => ((some (y123.set (x5 : Int).toNat (⟨(rd_T32 y123 x5).f0, (rd_T32 y123 x5).f1, (rd_T32 y123 x5).f2, (rd_T32 y123 x5).f3, (⟨wrap64 ((wrap64 ((wrap64 ((wrap64 (x1 + 1)) + 1)) + 1)) + 1), (rd_T32 y123 x5).f4.f1⟩ : S30), (rd_T32 y123 x5).f5, (rd_T32 y123 x5).f6⟩ : S32) : List (S32))).bind fun y124 => ((some (y124.set (x5 : Int).toNat (⟨(rd_T32 y124 x5).f0, (rd_T32 y124 x5).f1, (rd_T32 y124 x5).f2, (rd_T32 y124 x5).f3, (⟨(rd_T32 y124 x5).f4.f0, wrap64 ((wrap64 ((wrap64 ((wrap64 ((wrap64 (x1 + 1)) + 1)) + 1)) + 1)) + 1)⟩ : S30), (rd_T32 y124 x5).f5, (rd_T32 y124 x5).f6⟩ : S32) : List (S32))).bind fun y125 => ((some (y125.set (x5 : Int).toNat (⟨(rd_T32 y125 x5).f0, (rd_T32 y125 x5).f1, (rd_T32 y125 x5).f2, (rd_T32 y125 x5).f3, (⟨(rd_T32 y125 x5).f4.f0, (rd_T32 y125 x5).f4.f1⟩ : S30), wrap64 ((wrap64 ((wrap64 ((wrap64 ((wrap64 ((wrap64 (x1 + 1)) + 1)) + 1)) + 1)) + 1)) + 1), (rd_T32 y125 x5).f6⟩ : S32) : List (S32))).bind fun y126 => ((laws_markText.f k (wrap64 ((wrap64 ((wrap64 ((wrap64 ((wrap64 ((wrap64 ((wrap64 (x1 + 1)) + 1)) + 1)) + 1)) + 1)) + 1)) + 1))).bind fun t127 => (laws_markMsgS.l0 k (y126.set (x5 : Int).toNat (⟨(rd_T32 y126 x5).f0, (rd_T32 y126 x5).f1, (rd_T32 y126 x5).f2, (rd_T32 y126 x5).f3, (⟨(rd_T32 y126 x5).f4.f0, (rd_T32 y126 x5).f4.f1⟩ : S30), (rd_T32 y126 x5).f5, t127⟩ : S32)) (wrap64 ((wrap64 ((wrap64 ((wrap64 ((wrap64 ((wrap64 ((wrap64 ((wrap64 (x1 + 1)) + 1)) + 1)) + 1)) + 1)) + 1)) + 1)) + 1)) (wrap64 (x5 + 1))))))))))) else (none)) else (some (x1, x0))
def laws_markMsgS.f (k : Nat) (l0 : List (S32)) (a1 : Int) : Option (Int × (List (S32))) := laws_markMsgS.l0 k l0 a1 0
theorem laws_markMsgS.mono_l : ∀ k, (∀ y0 y1 y2, LeO (laws_markMsgS.l0 k y0 y1 y2) (laws_markMsgS.l0 (k + 1) y0 y1 y2))
 | 0 => fun _ _ _ r h => by simp [laws_markMsgS.l0] at h
 | k + 1 => by
  have ih0 := laws_markMsgS.mono_l k
  ·intro y0 y1 y2
   unfold laws_markMsgS.l0
   repeat' first
   | (with_reducible exact ih0 _ _ _)
   | (with_reducible exact laws_markText.mono _ _)
   | (with_reducible exact LeO.refl _)
   | (with_reducible exact LeO.none _)
   | (with_reducible refine LeO.ite ?_ ?_)
   | (with_reducible refine LeO.bind ?_ (fun _ => ?_))
   | exact ih0 _ _ _
   | exact laws_markText.mono _ _
   | exact LeO.none _
   | refine LeO.ite ?_ ?_
   | refine LeO.bind ?_ (fun _ => ?_)
theorem laws_markMsgS.mono : ∀ a0 a1 k, LeO (laws_markMsgS.f k a0 a1) (laws_markMsgS.f (k + 1) a0 a1) := by
 intro a0 a1 k
 have ih0 := laws_markMsgS.mono_l k
 unfold laws_markMsgS.f
 repeat' first
   | (with_reducible exact ih0 _ _ _)
   | (with_reducible exact laws_markText.mono _ _)
   | (with_reducible exact LeO.refl _)
   | (with_reducible exact LeO.none _)
   | (with_reducible refine LeO.ite ?_ ?_)
   | (with_reducible refine LeO.bind ?_ (fun _ => ?_))
   | exact ih0 _ _ _
   | exact laws_markText.mono _ _
   | exact LeO.none _
   | refine LeO.ite ?_ ?_
   | refine LeO.bind ?_ (fun _ => ?_)
theorem laws_markMsgS.calls (k : Nat) (P0_ : Nat → Prop) (u9000_ : Value) (l0 : List (S32)) (a1 : Int) (r1 : Int) (r2 : List (S32)) (w0 w : World) (hB : Below w0.heap.size w0 w) (ho0 : Kd.R k32 32 w w0.heap.size P0_ u9000_ l0) (h : laws_markMsgS.f k l0 a1 = some (r1, r2)) :
  Calls Try.prog 30 #[u9000_, .int .i64 a1] w fun e w' => e = .returned (.int .i64 r1) ∧ Kd.R k32 32 w' w0.heap.size (fun k_ => (P0_ k_ ∨ w.heap.size ≤ k_)) u9000_ r2 ∧ Below w0.heap.size w0 w' ∧ Kept w w' (fun k_ => P0_ k_) := by
 have HO0 := zM (show Kd.R k32 32 w w0.heap.size (fun k_ => (P0_ k_ ∨ w.heap.size ≤ k_)) u9000_ l0 from Kd.R_mono ho0 (fun k_ hk => (.inl hk)))
 have HK := zM (Kept.refl w (fun k_ => P0_ k_))
 have HW0 := zM hB.size
 have HB := zM hB
 clear hB
 have H : (laws_markMsgS.l0 k l0 a1 0) = some (r1, r2) := h
 clear h
 have H' := zM H
 clear H
 go_enter Try.func30, Try.ntmps30
 go_wp2
 go_loopg [1, 5] k (fun kq v1 v5 w' => ∃ (x0_1 : List (S32)) (x1_1 : Int) (x5_1 : Int), v1 = .int .i64 x1_1 ∧ v5 = .int .i64 x5_1 ∧ Aside0 (laws_markMsgS.l0 kq x0_1 x1_1 x5_1 = some (r1, r2)) ∧ Aside0 (kq ≤ k) ∧ Aside0 (Kd.R k32 32 w' w0.heap.size (fun k_ => (P0_ k_ ∨ w.heap.size ≤ k_)) u9000_ x0_1) ∧ Aside0 (Kept w w' (fun k_ => P0_ k_)) ∧ Aside0 (Below w0.heap.size w0 w'))
 case atStart => exact ⟨(l0), (a1), (0), (by first | rfl | (simp; done) | (simp [*]; done)), (by first | rfl | (simp; done) | (simp [*]; done)), H', ⟨Nat.le_refl _⟩, ⟨by (with_reducible repeat (first | apply Kd.R_alloc | apply Kd.R_drewN | apply Kd.R_drew)); exact HO0.out⟩, ⟨by repeat (first | (with_reducible first | exact HK.out | apply Kept.alloc | apply Kept.drewN | apply Kept.drew) | exact HK.out)⟩, ⟨by repeat (first | (with_reducible first | exact HB.out | apply bE | apply bD | apply bF) | exact HB.out)⟩⟩
 case round =>
  clear H'
  try clear p2
  obtain ⟨x0_1, x1_1, x5_1, rfl, rfl, HA, HK1, HO_0, HK, HB⟩ := hrel
  cases gk with
  | zero => exact absurd HA.out (by simp [laws_markMsgS.l0])
  | succ k1 =>
   have H := HA.out
   clear HA
   simp only [laws_markMsgS.l0] at H
   by_cases c3 : x5_1 < (x0_1.length : Int)
   ·rw [if_pos c3] at H
    have c3b0 : decide (x5_1 < (x0_1.length : Int)) = true := decide_eq_true c3
    clear c3
    by_cases c4 : 0 ≤ x5_1
    ·rw [if_pos c4] at H
     have c4b0 : decide (0 ≤ x5_1) = true := decide_eq_true c4
     clear c4
     obtain ⟨y120, hy120⟩ : ∃ y_ : List (S32), y_ = (x0_1.set (x5_1 : Int).toNat (⟨x1_1, (rd_T32 x0_1 x5_1).f1, (rd_T32 x0_1 x5_1).f2, (rd_T32 x0_1 x5_1).f3, (⟨(rd_T32 x0_1 x5_1).f4.f0, (rd_T32 x0_1 x5_1).f4.f1⟩ : S30), (rd_T32 x0_1 x5_1).f5, (rd_T32 x0_1 x5_1).f6⟩ : S32)) := ⟨_, rfl⟩
     replace H : ((some (y120.set (x5_1 : Int).toNat (⟨(rd_T32 y120 x5_1).f0, wrap64 (x1_1 + 1), (rd_T32 y120 x5_1).f2, (rd_T32 y120 x5_1).f3, (⟨(rd_T32 y120 x5_1).f4.f0, (rd_T32 y120 x5_1).f4.f1⟩ : S30), (rd_T32 y120 x5_1).f5, (rd_T32 y120 x5_1).f6⟩ : S32) : List (S32))).bind fun y121 => ((some (y121.set (x5_1 : Int).toNat (⟨(rd_T32 y121 x5_1).f0, (rd_T32 y121 x5_1).f1, wrap64 ((wrap64 (x1_1 + 1)) + 1), (rd_T32 y121 x5_1).f3, (⟨(rd_T32 y121 x5_1).f4.f0, (rd_T32 y121 x5_1).f4.f1⟩ : S30), (rd_T32 y121 x5_1).f5, (rd_T32 y121 x5_1).f6⟩ : S32) : List (S32))).bind fun y122 => ((some (y122.set (x5_1 : Int).toNat (⟨(rd_T32 y122 x5_1).f0, (rd_T32 y122 x5_1).f1, (rd_T32 y122 x5_1).f2, wrap64 ((wrap64 ((wrap64 (x1_1 + 1)) + 1)) + 1), (⟨(rd_T32 y122 x5_1).f4.f0, (rd_T32 y122 x5_1).f4.f1⟩ : S30), (rd_T32 y122 x5_1).f5, (rd_T32 y122 x5_1).f6⟩ : S32) : List (S32))).bind fun y123 => ((some (y123.set (x5_1 : Int).toNat (⟨(rd_T32 y123 x5_1).f0, (rd_T32 y123 x5_1).f1, (rd_T32 y123 x5_1).f2, (rd_T32 y123 x5_1).f3, (⟨wrap64 ((wrap64 ((wrap64 ((wrap64 (x1_1 + 1)) + 1)) + 1)) + 1), (rd_T32 y123 x5_1).f4.f1⟩ : S30), (rd_T32 y123 x5_1).f5, (rd_T32 y123 x5_1).f6⟩ : S32) : List (S32))).bind fun y124 => ((some (y124.set (x5_1 : Int).toNat (⟨(rd_T32 y124 x5_1).f0, (rd_T32 y124 x5_1).f1, (rd_T32 y124 x5_1).f2, (rd_T32 y124 x5_1).f3, (⟨(rd_T32 y124 x5_1).f4.f0, wrap64 ((wrap64 ((wrap64 ((wrap64 ((wrap64 (x1_1 + 1)) + 1)) + 1)) + 1)) + 1)⟩ : S30), (rd_T32 y124 x5_1).f5, (rd_T32 y124 x5_1).f6⟩ : S32) : List (S32))).bind fun y125 => ((some (y125.set (x5_1 : Int).toNat (⟨(rd_T32 y125 x5_1).f0, (rd_T32 y125 x5_1).f1, (rd_T32 y125 x5_1).f2, (rd_T32 y125 x5_1).f3, (⟨(rd_T32 y125 x5_1).f4.f0, (rd_T32 y125 x5_1).f4.f1⟩ : S30), wrap64 ((wrap64 ((wrap64 ((wrap64 ((wrap64 ((wrap64 (x1_1 + 1)) + 1)) + 1)) + 1)) + 1)) + 1), (rd_T32 y125 x5_1).f6⟩ : S32) : List (S32))).bind fun y126 => ((laws_markText.f k1 (wrap64 ((wrap64 ((wrap64 ((wrap64 ((wrap64 ((wrap64 ((wrap64 (x1_1 + 1)) + 1)) + 1)) + 1)) + 1)) + 1)) + 1))).bind fun t127 => (laws_markMsgS.l0 k1 (y126.set (x5_1 : Int).toNat (⟨(rd_T32 y126 x5_1).f0, (rd_T32 y126 x5_1).f1, (rd_T32 y126 x5_1).f2, (rd_T32 y126 x5_1).f3, (⟨(rd_T32 y126 x5_1).f4.f0, (rd_T32 y126 x5_1).f4.f1⟩ : S30), (rd_T32 y126 x5_1).f5, t127⟩ : S32)) (wrap64 ((wrap64 ((wrap64 ((wrap64 ((wrap64 ((wrap64 ((wrap64 ((wrap64 (x1_1 + 1)) + 1)) + 1)) + 1)) + 1)) + 1)) + 1)) + 1)) (wrap64 (x5_1 + 1)))))))))) = some (r1, r2) := by first | (rw [hy120]; with_reducible exact H) | (have H2_ := (Option.bind_some _ _).symm.trans H; rw [hy120]; with_reducible exact H2_) | (have H2_ := (Option.bind_some _ _).symm.trans H; with_reducible exact H2_) | with_reducible exact H | (rw [hy120]; exact H) | exact H
     have Ny120 := zM hy120
     clear hy120
     obtain ⟨y121, hy121⟩ : ∃ y_ : List (S32), y_ = (y120.set (x5_1 : Int).toNat (⟨(rd_T32 y120 x5_1).f0, wrap64 (x1_1 + 1), (rd_T32 y120 x5_1).f2, (rd_T32 y120 x5_1).f3, (⟨(rd_T32 y120 x5_1).f4.f0, (rd_T32 y120 x5_1).f4.f1⟩ : S30), (rd_T32 y120 x5_1).f5, (rd_T32 y120 x5_1).f6⟩ : S32)) := ⟨_, rfl⟩
     replace H : ((some (y121.set (x5_1 : Int).toNat (⟨(rd_T32 y121 x5_1).f0, (rd_T32 y121 x5_1).f1, wrap64 ((wrap64 (x1_1 + 1)) + 1), (rd_T32 y121 x5_1).f3, (⟨(rd_T32 y121 x5_1).f4.f0, (rd_T32 y121 x5_1).f4.f1⟩ : S30), (rd_T32 y121 x5_1).f5, (rd_T32 y121 x5_1).f6⟩ : S32) : List (S32))).bind fun y122 => ((some (y122.set (x5_1 : Int).toNat (⟨(rd_T32 y122 x5_1).f0, (rd_T32 y122 x5_1).f1, (rd_T32 y122 x5_1).f2, wrap64 ((wrap64 ((wrap64 (x1_1 + 1)) + 1)) + 1), (⟨(rd_T32 y122 x5_1).f4.f0, (rd_T32 y122 x5_1).f4.f1⟩ : S30), (rd_T32 y122 x5_1).f5, (rd_T32 y122 x5_1).f6⟩ : S32) : List (S32))).bind fun y123 => ((some (y123.set (x5_1 : Int).toNat (⟨(rd_T32 y123 x5_1).f0, (rd_T32 y123 x5_1).f1, (rd_T32 y123 x5_1).f2, (rd_T32 y123 x5_1).f3, (⟨wrap64 ((wrap64 ((wrap64 ((wrap64 (x1_1 + 1)) + 1)) + 1)) + 1), (rd_T32 y123 x5_1).f4.f1⟩ : S30), (rd_T32 y123 x5_1).f5, (rd_T32 y123 x5_1).f6⟩ : S32) : List (S32))).bind fun y124 => ((some (y124.set (x5_1 : Int).toNat (⟨(rd_T32 y124 x5_1).f0, (rd_T32 y124 x5_1).f1, (rd_T32 y124 x5_1).f2, (rd_T32 y124 x5_1).f3, (⟨(rd_T32 y124 x5_1).f4.f0, wrap64 ((wrap64 ((wrap64 ((wrap64 ((wrap64 (x1_1 + 1)) + 1)) + 1)) + 1)) + 1)⟩ : S30), (rd_T32 y124 x5_1).f5, (rd_T32 y124 x5_1).f6⟩ : S32) : List (S32))).bind fun y125 => ((some (y125.set (x5_1 : Int).toNat (⟨(rd_T32 y125 x5_1).f0, (rd_T32 y125 x5_1).f1, (rd_T32 y125 x5_1).f2, (rd_T32 y125 x5_1).f3, (⟨(rd_T32 y125 x5_1).f4.f0, (rd_T32 y125 x5_1).f4.f1⟩ : S30), wrap64 ((wrap64 ((wrap64 ((wrap64 ((wrap64 ((wrap64 (x1_1 + 1)) + 1)) + 1)) + 1)) + 1)) + 1), (rd_T32 y125 x5_1).f6⟩ : S32) : List (S32))).bind fun y126 => ((laws_markText.f k1 (wrap64 ((wrap64 ((wrap64 ((wrap64 ((wrap64 ((wrap64 ((wrap64 (x1_1 + 1)) + 1)) + 1)) + 1)) + 1)) + 1)) + 1))).bind fun t127 => (laws_markMsgS.l0 k1 (y126.set (x5_1 : Int).toNat (⟨(rd_T32 y126 x5_1).f0, (rd_T32 y126 x5_1).f1, (rd_T32 y126 x5_1).f2, (rd_T32 y126 x5_1).f3, (⟨(rd_T32 y126 x5_1).f4.f0, (rd_T32 y126 x5_1).f4.f1⟩ : S30), (rd_T32 y126 x5_1).f5, t127⟩ : S32)) (wrap64 ((wrap64 ((wrap64 ((wrap64 ((wrap64 ((wrap64 ((wrap64 ((wrap64 (x1_1 + 1)) + 1)) + 1)) + 1)) + 1)) + 1)) + 1)) + 1)) (wrap64 (x5_1 + 1))))))))) = some (r1, r2) := by first | (rw [hy121]; with_reducible exact H) | (have H2_ := (Option.bind_some _ _).symm.trans H; rw [hy121]; with_reducible exact H2_) | (have H2_ := (Option.bind_some _ _).symm.trans H; with_reducible exact H2_) | with_reducible exact H | (rw [hy121]; exact H) | exact H
     have Ny121 := zM hy121
     clear hy121
     obtain ⟨y122, hy122⟩ : ∃ y_ : List (S32), y_ = (y121.set (x5_1 : Int).toNat (⟨(rd_T32 y121 x5_1).f0, (rd_T32 y121 x5_1).f1, wrap64 ((wrap64 (x1_1 + 1)) + 1), (rd_T32 y121 x5_1).f3, (⟨(rd_T32 y121 x5_1).f4.f0, (rd_T32 y121 x5_1).f4.f1⟩ : S30), (rd_T32 y121 x5_1).f5, (rd_T32 y121 x5_1).f6⟩ : S32)) := ⟨_, rfl⟩
     replace H : ((some (y122.set (x5_1 : Int).toNat (⟨(rd_T32 y122 x5_1).f0, (rd_T32 y122 x5_1).f1, (rd_T32 y122 x5_1).f2, wrap64 ((wrap64 ((wrap64 (x1_1 + 1)) + 1)) + 1), (⟨(rd_T32 y122 x5_1).f4.f0, (rd_T32 y122 x5_1).f4.f1⟩ : S30), (rd_T32 y122 x5_1).f5, (rd_T32 y122 x5_1).f6⟩ : S32) : List (S32))).bind fun y123 => ((some (y123.set (x5_1 : Int).toNat (⟨(rd_T32 y123 x5_1).f0, (rd_T32 y123 x5_1).f1, (rd_T32 y123 x5_1).f2, (rd_T32 y123 x5_1).f3, (⟨wrap64 ((wrap64 ((wrap64 ((wrap64 (x1_1 + 1)) + 1)) + 1)) + 1), (rd_T32 y123 x5_1).f4.f1⟩ : S30), (rd_T32 y123 x5_1).f5, (rd_T32 y123 x5_1).f6⟩ : S32) : List (S32))).bind fun y124 => ((some (y124.set (x5_1 : Int).toNat (⟨(rd_T32 y124 x5_1).f0, (rd_T32 y124 x5_1).f1, (rd_T32 y124 x5_1).f2, (rd_T32 y124 x5_1).f3, (⟨(rd_T32 y124 x5_1).f4.f0, wrap64 ((wrap64 ((wrap64 ((wrap64 ((wrap64 (x1_1 + 1)) + 1)) + 1)) + 1)) + 1)⟩ : S30), (rd_T32 y124 x5_1).f5, (rd_T32 y124 x5_1).f6⟩ : S32) : List (S32))).bind fun y125 => ((some (y125.set (x5_1 : Int).toNat (⟨(rd_T32 y125 x5_1).f0, (rd_T32 y125 x5_1).f1, (rd_T32 y125 x5_1).f2, (rd_T32 y125 x5_1).f3, (⟨(rd_T32 y125 x5_1).f4.f0, (rd_T32 y125 x5_1).f4.f1⟩ : S30), wrap64 ((wrap64 ((wrap64 ((wrap64 ((wrap64 ((wrap64 (x1_1 + 1)) + 1)) + 1)) + 1)) + 1)) + 1), (rd_T32 y125 x5_1).f6⟩ : S32) : List (S32))).bind fun y126 => ((laws_markText.f k1 (wrap64 ((wrap64 ((wrap64 ((wrap64 ((wrap64 ((wrap64 ((wrap64 (x1_1 + 1)) + 1)) + 1)) + 1)) + 1)) + 1)) + 1))).bind fun t127 => (laws_markMsgS.l0 k1 (y126.set (x5_1 : Int).toNat (⟨(rd_T32 y126 x5_1).f0, (rd_T32 y126 x5_1).f1, (rd_T32 y126 x5_1).f2, (rd_T32 y126 x5_1).f3, (⟨(rd_T32 y126 x5_1).f4.f0, (rd_T32 y126 x5_1).f4.f1⟩ : S30), (rd_T32 y126 x5_1).f5, t127⟩ : S32)) (wrap64 ((wrap64 ((wrap64 ((wrap64 ((wrap64 ((wrap64 ((wrap64 ((wrap64 (x1_1 + 1)) + 1)) + 1)) + 1)) + 1)) + 1)) + 1)) + 1)) (wrap64 (x5_1 + 1)))))))) = some (r1, r2) := by first | (rw [hy122]; with_reducible exact H) | (have H2_ := (Option.bind_some _ _).symm.trans H; rw [hy122]; with_reducible exact H2_) | (have H2_ := (Option.bind_some _ _).symm.trans H; with_reducible exact H2_) | with_reducible exact H | (rw [hy122]; exact H) | exact H
     have Ny122 := zM hy122
     clear hy122
     obtain ⟨y123, hy123⟩ : ∃ y_ : List (S32), y_ = (y122.set (x5_1 : Int).toNat (⟨(rd_T32 y122 x5_1).f0, (rd_T32 y122 x5_1).f1, (rd_T32 y122 x5_1).f2, wrap64 ((wrap64 ((wrap64 (x1_1 + 1)) + 1)) + 1), (⟨(rd_T32 y122 x5_1).f4.f0, (rd_T32 y122 x5_1).f4.f1⟩ : S30), (rd_T32 y122 x5_1).f5, (rd_T32 y122 x5_1).f6⟩ : S32)) := ⟨_, rfl⟩
     replace H : ((some (y123.set (x5_1 : Int).toNat (⟨(rd_T32 y123 x5_1).f0, (rd_T32 y123 x5_1).f1, (rd_T32 y123 x5_1).f2, (rd_T32 y123 x5_1).f3, (⟨wrap64 ((wrap64 ((wrap64 ((wrap64 (x1_1 + 1)) + 1)) + 1)) + 1), (rd_T32 y123 x5_1).f4.f1⟩ : S30), (rd_T32 y123 x5_1).f5, (rd_T32 y123 x5_1).f6⟩ : S32) : List (S32))).bind fun y124 => ((some (y124.set (x5_1 : Int).toNat (⟨(rd_T32 y124 x5_1).f0, (rd_T32 y124 x5_1).f1, (rd_T32 y124 x5_1).f2, (rd_T32 y124 x5_1).f3, (⟨(rd_T32 y124 x5_1).f4.f0, wrap64 ((wrap64 ((wrap64 ((wrap64 ((wrap64 (x1_1 + 1)) + 1)) + 1)) + 1)) + 1)⟩ : S30), (rd_T32 y124 x5_1).f5, (rd_T32 y124 x5_1).f6⟩ : S32) : List (S32))).bind fun y125 => ((some (y125.set (x5_1 : Int).toNat (⟨(rd_T32 y125 x5_1).f0, (rd_T32 y125 x5_1).f1, (rd_T32 y125 x5_1).f2, (rd_T32 y125 x5_1).f3, (⟨(rd_T32 y125 x5_1).f4.f0, (rd_T32 y125 x5_1).f4.f1⟩ : S30), wrap64 ((wrap64 ((wrap64 ((wrap64 ((wrap64 ((wrap64 (x1_1 + 1)) + 1)) + 1)) + 1)) + 1)) + 1), (rd_T32 y125 x5_1).f6⟩ : S32) : List (S32))).bind fun y126 => ((laws_markText.f k1 (wrap64 ((wrap64 ((wrap64 ((wrap64 ((wrap64 ((wrap64 ((wrap64 (x1_1 + 1)) + 1)) + 1)) + 1)) + 1)) + 1)) + 1))).bind fun t127 => (laws_markMsgS.l0 k1 (y126.set (x5_1 : Int).toNat (⟨(rd_T32 y126 x5_1).f0, (rd_T32 y126 x5_1).f1, (rd_T32 y126 x5_1).f2, (rd_T32 y126 x5_1).f3, (⟨(rd_T32 y126 x5_1).f4.f0, (rd_T32 y126 x5_1).f4.f1⟩ : S30), (rd_T32 y126 x5_1).f5, t127⟩ : S32)) (wrap64 ((wrap64 ((wrap64 ((wrap64 ((wrap64 ((wrap64 ((wrap64 ((wrap64 (x1_1 + 1)) + 1)) + 1)) + 1)) + 1)) + 1)) + 1)) + 1)) (wrap64 (x5_1 + 1))))))) = some (r1, r2) := by first | (rw [hy123]; with_reducible exact H) | (have H2_ := (Option.bind_some _ _).symm.trans H; rw [hy123]; with_reducible exact H2_) | (have H2_ := (Option.bind_some _ _).symm.trans H; with_reducible exact H2_) | with_reducible exact H | (rw [hy123]; exact H) | exact H
     have Ny123 := zM hy123
     clear hy123
     obtain ⟨y124, hy124⟩ : ∃ y_ : List (S32), y_ = (y123.set (x5_1 : Int).toNat (⟨(rd_T32 y123 x5_1).f0, (rd_T32 y123 x5_1).f1, (rd_T32 y123 x5_1).f2, (rd_T32 y123 x5_1).f3, (⟨wrap64 ((wrap64 ((wrap64 ((wrap64 (x1_1 + 1)) + 1)) + 1)) + 1), (rd_T32 y123 x5_1).f4.f1⟩ : S30), (rd_T32 y123 x5_1).f5, (rd_T32 y123 x5_1).f6⟩ : S32)) := ⟨_, rfl⟩
     replace H : ((some (y124.set (x5_1 : Int).toNat (⟨(rd_T32 y124 x5_1).f0, (rd_T32 y124 x5_1).f1, (rd_T32 y124 x5_1).f2, (rd_T32 y124 x5_1).f3, (⟨(rd_T32 y124 x5_1).f4.f0, wrap64 ((wrap64 ((wrap64 ((wrap64 ((wrap64 (x1_1 + 1)) + 1)) + 1)) + 1)) + 1)⟩ : S30), (rd_T32 y124 x5_1).f5, (rd_T32 y124 x5_1).f6⟩ : S32) : List (S32))).bind fun y125 => ((some (y125.set (x5_1 : Int).toNat (⟨(rd_T32 y125 x5_1).f0, (rd_T32 y125 x5_1).f1, (rd_T32 y125 x5_1).f2, (rd_T32 y125 x5_1).f3, (⟨(rd_T32 y125 x5_1).f4.f0, (rd_T32 y125 x5_1).f4.f1⟩ : S30), wrap64 ((wrap64 ((wrap64 ((wrap64 ((wrap64 ((wrap64 (x1_1 + 1)) + 1)) + 1)) + 1)) + 1)) + 1), (rd_T32 y125 x5_1).f6⟩ : S32) : List (S32))).bind fun y126 => ((laws_markText.f k1 (wrap64 ((wrap64 ((wrap64 ((wrap64 ((wrap64 ((wrap64 ((wrap64 (x1_1 + 1)) + 1)) + 1)) + 1)) + 1)) + 1)) + 1))).bind fun t127 => (laws_markMsgS.l0 k1 (y126.set (x5_1 : Int).toNat (⟨(rd_T32 y126 x5_1).f0, (rd_T32 y126 x5_1).f1, (rd_T32 y126 x5_1).f2, (rd_T32 y126 x5_1).f3, (⟨(rd_T32 y126 x5_1).f4.f0, (rd_T32 y126 x5_1).f4.f1⟩ : S30), (rd_T32 y126 x5_1).f5, t127⟩ : S32)) (wrap64 ((wrap64 ((wrap64 ((wrap64 ((wrap64 ((wrap64 ((wrap64 ((wrap64 (x1_1 + 1)) + 1)) + 1)) + 1)) + 1)) + 1)) + 1)) + 1)) (wrap64 (x5_1 + 1)))))) = some (r1, r2) := by first | (rw [hy124]; with_reducible exact H) | (have H2_ := (Option.bind_some _ _).symm.trans H; rw [hy124]; with_reducible exact H2_) | (have H2_ := (Option.bind_some _ _).symm.trans H; with_reducible exact H2_) | with_reducible exact H | (rw [hy124]; exact H) | exact H
     have Ny124 := zM hy124
     clear hy124
     obtain ⟨y125, hy125⟩ : ∃ y_ : List (S32), y_ = (y124.set (x5_1 : Int).toNat (⟨(rd_T32 y124 x5_1).f0, (rd_T32 y124 x5_1).f1, (rd_T32 y124 x5_1).f2, (rd_T32 y124 x5_1).f3, (⟨(rd_T32 y124 x5_1).f4.f0, wrap64 ((wrap64 ((wrap64 ((wrap64 ((wrap64 (x1_1 + 1)) + 1)) + 1)) + 1)) + 1)⟩ : S30), (rd_T32 y124 x5_1).f5, (rd_T32 y124 x5_1).f6⟩ : S32)) := ⟨_, rfl⟩
     replace H : ((some (y125.set (x5_1 : Int).toNat (⟨(rd_T32 y125 x5_1).f0, (rd_T32 y125 x5_1).f1, (rd_T32 y125 x5_1).f2, (rd_T32 y125 x5_1).f3, (⟨(rd_T32 y125 x5_1).f4.f0, (rd_T32 y125 x5_1).f4.f1⟩ : S30), wrap64 ((wrap64 ((wrap64 ((wrap64 ((wrap64 ((wrap64 (x1_1 + 1)) + 1)) + 1)) + 1)) + 1)) + 1), (rd_T32 y125 x5_1).f6⟩ : S32) : List (S32))).bind fun y126 => ((laws_markText.f k1 (wrap64 ((wrap64 ((wrap64 ((wrap64 ((wrap64 ((wrap64 ((wrap64 (x1_1 + 1)) + 1)) + 1)) + 1)) + 1)) + 1)) + 1))).bind fun t127 => (laws_markMsgS.l0 k1 (y126.set (x5_1 : Int).toNat (⟨(rd_T32 y126 x5_1).f0, (rd_T32 y126 x5_1).f1, (rd_T32 y126 x5_1).f2, (rd_T32 y126 x5_1).f3, (⟨(rd_T32 y126 x5_1).f4.f0, (rd_T32 y126 x5_1).f4.f1⟩ : S30), (rd_T32 y126 x5_1).f5, t127⟩ : S32)) (wrap64 ((wrap64 ((wrap64 ((wrap64 ((wrap64 ((wrap64 ((wrap64 ((wrap64 (x1_1 + 1)) + 1)) + 1)) + 1)) + 1)) + 1)) + 1)) + 1)) (wrap64 (x5_1 + 1))))) = some (r1, r2) := by first | (rw [hy125]; with_reducible exact H) | (have H2_ := (Option.bind_some _ _).symm.trans H; rw [hy125]; with_reducible exact H2_) | (have H2_ := (Option.bind_some _ _).symm.trans H; with_reducible exact H2_) | with_reducible exact H | (rw [hy125]; exact H) | exact H
     have Ny125 := zM hy125
     clear hy125
     obtain ⟨y126, hy126⟩ : ∃ y_ : List (S32), y_ = (y125.set (x5_1 : Int).toNat (⟨(rd_T32 y125 x5_1).f0, (rd_T32 y125 x5_1).f1, (rd_T32 y125 x5_1).f2, (rd_T32 y125 x5_1).f3, (⟨(rd_T32 y125 x5_1).f4.f0, (rd_T32 y125 x5_1).f4.f1⟩ : S30), wrap64 ((wrap64 ((wrap64 ((wrap64 ((wrap64 ((wrap64 (x1_1 + 1)) + 1)) + 1)) + 1)) + 1)) + 1), (rd_T32 y125 x5_1).f6⟩ : S32)) := ⟨_, rfl⟩
     replace H : ((laws_markText.f k1 (wrap64 ((wrap64 ((wrap64 ((wrap64 ((wrap64 ((wrap64 ((wrap64 (x1_1 + 1)) + 1)) + 1)) + 1)) + 1)) + 1)) + 1))).bind fun t127 => (laws_markMsgS.l0 k1 (y126.set (x5_1 : Int).toNat (⟨(rd_T32 y126 x5_1).f0, (rd_T32 y126 x5_1).f1, (rd_T32 y126 x5_1).f2, (rd_T32 y126 x5_1).f3, (⟨(rd_T32 y126 x5_1).f4.f0, (rd_T32 y126 x5_1).f4.f1⟩ : S30), (rd_T32 y126 x5_1).f5, t127⟩ : S32)) (wrap64 ((wrap64 ((wrap64 ((wrap64 ((wrap64 ((wrap64 ((wrap64 ((wrap64 (x1_1 + 1)) + 1)) + 1)) + 1)) + 1)) + 1)) + 1)) + 1)) (wrap64 (x5_1 + 1)))) = some (r1, r2) := by first | (rw [hy126]; with_reducible exact H) | (have H2_ := (Option.bind_some _ _).symm.trans H; rw [hy126]; with_reducible exact H2_) | (have H2_ := (Option.bind_some _ _).symm.trans H; with_reducible exact H2_) | with_reducible exact H | (rw [hy126]; exact H) | exact H
     have Ny126 := zM hy126
     clear hy126
     replace H := zO H
     obtain ⟨t127, A120, H⟩ := H
     replace H : (laws_markMsgS.l0 k1 (y126.set (x5_1 : Int).toNat (⟨(rd_T32 y126 x5_1).f0, (rd_T32 y126 x5_1).f1, (rd_T32 y126 x5_1).f2, (rd_T32 y126 x5_1).f3, (⟨(rd_T32 y126 x5_1).f4.f0, (rd_T32 y126 x5_1).f4.f1⟩ : S30), (rd_T32 y126 x5_1).f5, t127⟩ : S32)) (wrap64 ((wrap64 ((wrap64 ((wrap64 ((wrap64 ((wrap64 ((wrap64 ((wrap64 (x1_1 + 1)) + 1)) + 1)) + 1)) + 1)) + 1)) + 1)) + 1)) (wrap64 (x5_1 + 1))) = some (r1, r2) := H
     have A12 := zM A120
     clear A120
     obtain ⟨y128, hy128⟩ : ∃ y_ : List (S32), y_ = (y126.set (x5_1 : Int).toNat (⟨(rd_T32 y126 x5_1).f0, (rd_T32 y126 x5_1).f1, (rd_T32 y126 x5_1).f2, (rd_T32 y126 x5_1).f3, (⟨(rd_T32 y126 x5_1).f4.f0, (rd_T32 y126 x5_1).f4.f1⟩ : S30), (rd_T32 y126 x5_1).f5, t127⟩ : S32)) := ⟨_, rfl⟩
     replace H : (laws_markMsgS.l0 k1 y128 (wrap64 ((wrap64 ((wrap64 ((wrap64 ((wrap64 ((wrap64 ((wrap64 ((wrap64 (x1_1 + 1)) + 1)) + 1)) + 1)) + 1)) + 1)) + 1)) + 1)) (wrap64 (x5_1 + 1))) = some (r1, r2) := by first | (rw [hy128]; with_reducible exact H) | (have H2_ := (Option.bind_some _ _).symm.trans H; rw [hy128]; with_reducible exact H2_) | (have H2_ := (Option.bind_some _ _).symm.trans H; with_reducible exact H2_) | with_reducible exact H | (rw [hy128]; exact H) | exact H
     have Ny128 := zM hy128
     clear hy128
     have H' := zM H
     clear H
     obtain ⟨Ao14, co14, eo14⟩ := Kd.R_slice HO_0.out
     subst eo14
     have p5 : 0 ≤ (x5_1 : Int) := of_decide_eq_true (by first | (with_reducible assumption) | assumption)
     have q5 : (x5_1 : Int) < ((x0_1.length : Int) : Int) := of_decide_eq_true (by first | (with_reducible assumption) | assumption)
     obtain ⟨go5, co5, eo5, gb5, gl5, cl5, HG5⟩ := Kd.R_form HO_0.out (by omega)
     (first | cases eo5 | (injection eo5 with ea_ en_ ec_; (first | subst ea_ | (injection ea_ with ea_; subst ea_)); subst ec_; clear en_))
     have GB5 := zM gb5
     have GG5 := zM HG5
     clear gb5 gl5 HG5
     have HMgo5 := zM (show (P0_ go5 ∨ w.heap.size ≤ go5) from (HO_0.out.1 _ rfl))
     obtain ⟨ce5, hcl5, hM5, hcc5, hfr5⟩ := Kd.R_elem HO_0.out z32 (x5_1 : Int) p5 q5
     obtain rfl := k32_openM hM5
     have hx5_0 : wr.cell? ⟨go5, (x5_1 : Int).toNat * 8, none⟩ = some (.int .i64 ((rd_T32 x0_1 x5_1).f0)) := hcc5 0 _ rfl
     have hx5_1 : wr.cell? ⟨go5, (x5_1 : Int).toNat * 8 + 1, none⟩ = some (.int .i64 ((rd_T32 x0_1 x5_1).f1)) := hcc5 1 _ rfl
     have hx5_2 : wr.cell? ⟨go5, (x5_1 : Int).toNat * 8 + 2, none⟩ = some (.int .i64 ((rd_T32 x0_1 x5_1).f2)) := hcc5 2 _ rfl
     have hx5_3 : wr.cell? ⟨go5, (x5_1 : Int).toNat * 8 + 3, none⟩ = some (.int .i64 ((rd_T32 x0_1 x5_1).f3)) := hcc5 3 _ rfl
     have hx5_4 : wr.cell? ⟨go5, (x5_1 : Int).toNat * 8 + 4, none⟩ = some (.int .i64 ((rd_T32 x0_1 x5_1).f4.f0)) := hcc5 4 _ rfl
     have hx5_5 : wr.cell? ⟨go5, (x5_1 : Int).toNat * 8 + 5, none⟩ = some (.int .i64 ((rd_T32 x0_1 x5_1).f4.f1)) := hcc5 5 _ rfl
     have hx5_6 : wr.cell? ⟨go5, (x5_1 : Int).toNat * 8 + 6, none⟩ = some (.int .i64 ((rd_T32 x0_1 x5_1).f5)) := hcc5 6 _ rfl
     have hx5_7 : wr.cell? ⟨go5, (x5_1 : Int).toNat * 8 + 7, none⟩ = some (.string ((rd_T32 x0_1 x5_1).f6)) := hcc5 7 _ rfl
     have hf5_0 : wr.frozen? ⟨go5, (x5_1 : Int).toNat * 8, none⟩ = false := hfr5 0
     have hf5_1 : wr.frozen? ⟨go5, (x5_1 : Int).toNat * 8 + 1, none⟩ = false := hfr5 1
     have hf5_2 : wr.frozen? ⟨go5, (x5_1 : Int).toNat * 8 + 2, none⟩ = false := hfr5 2
     have hf5_3 : wr.frozen? ⟨go5, (x5_1 : Int).toNat * 8 + 3, none⟩ = false := hfr5 3
     have hf5_4 : wr.frozen? ⟨go5, (x5_1 : Int).toNat * 8 + 4, none⟩ = false := hfr5 4
     have hf5_5 : wr.frozen? ⟨go5, (x5_1 : Int).toNat * 8 + 5, none⟩ = false := hfr5 5
     have hf5_6 : wr.frozen? ⟨go5, (x5_1 : Int).toNat * 8 + 6, none⟩ = false := hfr5 6
     have hf5_7 : wr.frozen? ⟨go5, (x5_1 : Int).toNat * 8 + 7, none⟩ = false := hfr5 7
     clear hcl5 hcc5 hfr5 hM5
     replace p5 := eq_true p5
     replace q5 := eq_true q5
     have HX15 := zM (show Kd.R k32 32 wr w0.heap.size (fun k_ => (P0_ k_ ∨ w.heap.size ≤ k_)) (.slice (some ⟨go5, 0, none⟩) x0_1.length co14) x0_1 from (by (with_reducible repeat (first | apply Kd.R_alloc | apply Kd.R_drewN | apply Kd.R_drew)); exact HO_0.out))
     obtain ⟨ce15, hcl15, hM15, hcc15, hfr15⟩ := Kd.R_elem HX15.out z32 (x5_1 : Int) (of_decide_eq_true (by first | (with_reducible assumption) | assumption)) (by have h_ : (x5_1 : Int) < ((x0_1.length : Int) : Int) := of_decide_eq_true (by first | (with_reducible assumption) | assumption); first | exact h_ | (have e_ := (Kd.R_reads' HO_0.out).1; omega) | simpa using h_)
     obtain rfl := k32_openM hM15
     have HP15 := Kd.R_seg HX15.out (x5_1 : Int) (of_decide_eq_true (by first | (with_reducible assumption) | assumption)) (by have h_ : (x5_1 : Int) < ((x0_1.length : Int) : Int) := of_decide_eq_true (by first | (with_reducible assumption) | assumption); first | exact h_ | (have e_ := (Kd.R_reads' HO_0.out).1; omega) | simpa using h_) (seg := [.int .i64 x1_1]) (j := 0) hcl15 hcc15 (show 1 ≤ 8 from by decide) (x' := (⟨x1_1, (rd_T32 x0_1 x5_1).f1, (rd_T32 x0_1 x5_1).f2, (rd_T32 x0_1 x5_1).f3, (⟨(rd_T32 x0_1 x5_1).f4.f0, (rd_T32 x0_1 x5_1).f4.f1⟩ : S30), (rd_T32 x0_1 x5_1).f5, (rd_T32 x0_1 x5_1).f6⟩ : S32)) (k32_mkM _ _ _ (⟨x1_1, (rd_T32 x0_1 x5_1).f1, (rd_T32 x0_1 x5_1).f2, (rd_T32 x0_1 x5_1).f3, (⟨(rd_T32 x0_1 x5_1).f4.f0, (rd_T32 x0_1 x5_1).f4.f1⟩ : S30), (rd_T32 x0_1 x5_1).f5, (rd_T32 x0_1 x5_1).f6⟩ : S32) ) (fun _ hk => hk)
     have hx15_0 := hcc15 0 _ rfl
     (try simp only [show (k32).sz = 8 from rfl, Nat.mul_one, Nat.add_zero] at hx15_0)
     have hf15_0 := hfr15 0
     (try simp only [show (k32).sz = 8 from rfl, Nat.mul_one, Nat.add_zero] at hf15_0)
     clear hcl15 hcc15 hfr15 hM15
     go_wp2_with (first | ((with_reducible refine gate_store (t := 3) (p := 16) rfl ?_); refine store_event (t := 3) (p := 16) (v := ?vo_w16) (w1 := (wr.setCell ⟨go5, (x5_1 : Int).toNat * 8, none⟩ (.int .i64 x1_1))) ?hg ?ho ?hn ?hr ?_; (case ho => rfl); (case hg => rfl); (case hn => rfl); (case hr => first | (go_simp; done) | (go_simp; rfl)); intro w16 hw; have hg : wr.grownBy w16 (some go5) := (by rw [hw]; exact HP15.2); have hp_ : Kd.R k32 32 w16 w0.heap.size (fun k_ => (P0_ k_ ∨ w.heap.size ≤ k_)) (.slice (some ⟨go5, 0, none⟩) x0_1.length co14) y120 := (by rw [hw, Ny120.out]; exact HP15.1); clear HP15; have n0_ := zM (hp_); have n1_ := zM ((by rw [hw]; exact below_set (HB.out) GB5.out : Below w0.heap.size w0 w16)); have n2_ := zM (Kept.of_grown (S := (fun k_ => P0_ k_)) hg (by repeat (first | (with_reducible first | exact HK.out | apply Kept.alloc | apply Kept.drewN | apply Kept.drew) | exact HK.out)) (fun k_ e_ => (HO_0.out.1 k_ e_))); clear HO_0; clear HB; clear HK; have HO_0 := n0_; have HB := n1_; have HK := n2_; clear n0_ n1_ n2_; clear hg hw hp_; have p6 : 0 ≤ (x5_1 : Int) := of_decide_eq_true (by first | (with_reducible assumption) | assumption); have q6 : (x5_1 : Int) < ((x0_1.length : Int) : Int) := of_decide_eq_true (by first | (with_reducible assumption) | assumption); obtain ⟨ce6, hcl6, hM6, hcc6, hfr6⟩ := Kd.R_elem HO_0.out z32 (x5_1 : Int) p6 q6; obtain rfl := k32_openM hM6; have hx6_0 : w16.cell? ⟨go5, (x5_1 : Int).toNat * 8, none⟩ = some (.int .i64 ((rd_T32 y120 x5_1).f0)) := hcc6 0 _ rfl; have hx6_1 : w16.cell? ⟨go5, (x5_1 : Int).toNat * 8 + 1, none⟩ = some (.int .i64 ((rd_T32 y120 x5_1).f1)) := hcc6 1 _ rfl; have hx6_2 : w16.cell? ⟨go5, (x5_1 : Int).toNat * 8 + 2, none⟩ = some (.int .i64 ((rd_T32 y120 x5_1).f2)) := hcc6 2 _ rfl; have hx6_3 : w16.cell? ⟨go5, (x5_1 : Int).toNat * 8 + 3, none⟩ = some (.int .i64 ((rd_T32 y120 x5_1).f3)) := hcc6 3 _ rfl; have hx6_4 : w16.cell? ⟨go5, (x5_1 : Int).toNat * 8 + 4, none⟩ = some (.int .i64 ((rd_T32 y120 x5_1).f4.f0)) := hcc6 4 _ rfl; have hx6_5 : w16.cell? ⟨go5, (x5_1 : Int).toNat * 8 + 5, none⟩ = some (.int .i64 ((rd_T32 y120 x5_1).f4.f1)) := hcc6 5 _ rfl; have hx6_6 : w16.cell? ⟨go5, (x5_1 : Int).toNat * 8 + 6, none⟩ = some (.int .i64 ((rd_T32 y120 x5_1).f5)) := hcc6 6 _ rfl; have hx6_7 : w16.cell? ⟨go5, (x5_1 : Int).toNat * 8 + 7, none⟩ = some (.string ((rd_T32 y120 x5_1).f6)) := hcc6 7 _ rfl; have hf6_0 : w16.frozen? ⟨go5, (x5_1 : Int).toNat * 8, none⟩ = false := hfr6 0; have hf6_1 : w16.frozen? ⟨go5, (x5_1 : Int).toNat * 8 + 1, none⟩ = false := hfr6 1; have hf6_2 : w16.frozen? ⟨go5, (x5_1 : Int).toNat * 8 + 2, none⟩ = false := hfr6 2; have hf6_3 : w16.frozen? ⟨go5, (x5_1 : Int).toNat * 8 + 3, none⟩ = false := hfr6 3; have hf6_4 : w16.frozen? ⟨go5, (x5_1 : Int).toNat * 8 + 4, none⟩ = false := hfr6 4; have hf6_5 : w16.frozen? ⟨go5, (x5_1 : Int).toNat * 8 + 5, none⟩ = false := hfr6 5; have hf6_6 : w16.frozen? ⟨go5, (x5_1 : Int).toNat * 8 + 6, none⟩ = false := hfr6 6; have hf6_7 : w16.frozen? ⟨go5, (x5_1 : Int).toNat * 8 + 7, none⟩ = false := hfr6 7; clear hcl6 hcc6 hfr6 hM6; replace p6 := eq_true p6; replace q6 := eq_true q6; have HX17 := zM (show Kd.R k32 32 w16 w0.heap.size (fun k_ => (P0_ k_ ∨ w.heap.size ≤ k_)) (.slice (some ⟨go5, 0, none⟩) x0_1.length co14) y120 from (by (with_reducible repeat (first | apply Kd.R_alloc | apply Kd.R_drewN | apply Kd.R_drew)); exact HO_0.out)); obtain ⟨ce17, hcl17, hM17, hcc17, hfr17⟩ := Kd.R_elem HX17.out z32 (x5_1 : Int) (of_decide_eq_true (by first | (with_reducible assumption) | assumption)) (by have h_ : (x5_1 : Int) < ((x0_1.length : Int) : Int) := of_decide_eq_true (by first | (with_reducible assumption) | assumption); first | exact h_ | (have e_ := (Kd.R_reads' HO_0.out).1; omega) | simpa using h_); obtain rfl := k32_openM hM17; have HP17 := Kd.R_seg HX17.out (x5_1 : Int) (of_decide_eq_true (by first | (with_reducible assumption) | assumption)) (by have h_ : (x5_1 : Int) < ((x0_1.length : Int) : Int) := of_decide_eq_true (by first | (with_reducible assumption) | assumption); first | exact h_ | (have e_ := (Kd.R_reads' HO_0.out).1; omega) | simpa using h_) (seg := [.int .i64 (wrap64 (x1_1 + 1))]) (j := 1) hcl17 hcc17 (show 2 ≤ 8 from by decide) (x' := (⟨(rd_T32 y120 x5_1).f0, wrap64 (x1_1 + 1), (rd_T32 y120 x5_1).f2, (rd_T32 y120 x5_1).f3, (⟨(rd_T32 y120 x5_1).f4.f0, (rd_T32 y120 x5_1).f4.f1⟩ : S30), (rd_T32 y120 x5_1).f5, (rd_T32 y120 x5_1).f6⟩ : S32)) (k32_mkM _ _ _ (⟨(rd_T32 y120 x5_1).f0, wrap64 (x1_1 + 1), (rd_T32 y120 x5_1).f2, (rd_T32 y120 x5_1).f3, (⟨(rd_T32 y120 x5_1).f4.f0, (rd_T32 y120 x5_1).f4.f1⟩ : S30), (rd_T32 y120 x5_1).f5, (rd_T32 y120 x5_1).f6⟩ : S32) ) (fun _ hk => hk); have hx17_1 := hcc17 1 _ rfl; (try simp only [show (k32).sz = 8 from rfl, Nat.mul_one, Nat.add_zero] at hx17_1); have hf17_1 := hfr17 1; (try simp only [show (k32).sz = 8 from rfl, Nat.mul_one, Nat.add_zero] at hf17_1); clear hcl17 hcc17 hfr17 hM17) | ((with_reducible refine gate_store (t := 3) (p := 23) rfl ?_); refine store_event (t := 3) (p := 23) (v := ?vo_w18) (w1 := (w16.setCell ⟨go5, (x5_1 : Int).toNat * 8 + 1, none⟩ (.int .i64 (wrap64 (x1_1 + 1))))) ?hg ?ho ?hn ?hr ?_; (case ho => rfl); (case hg => rfl); (case hn => rfl); (case hr => first | (go_simp; done) | (go_simp; rfl)); intro w18 hw; have hg : w16.grownBy w18 (some go5) := (by rw [hw]; exact HP17.2); have hp_ : Kd.R k32 32 w18 w0.heap.size (fun k_ => (P0_ k_ ∨ w.heap.size ≤ k_)) (.slice (some ⟨go5, 0, none⟩) x0_1.length co14) y121 := (by rw [hw, Ny121.out]; exact HP17.1); clear HP17; have n0_ := zM (hp_); have n1_ := zM ((by rw [hw]; exact below_set (HB.out) GB5.out : Below w0.heap.size w0 w18)); have n2_ := zM (Kept.of_grown (S := (fun k_ => P0_ k_)) hg (by repeat (first | (with_reducible first | exact HK.out | apply Kept.alloc | apply Kept.drewN | apply Kept.drew) | exact HK.out)) (fun k_ e_ => (HO_0.out.1 k_ e_))); clear HO_0; clear HB; clear HK; have HO_0 := n0_; have HB := n1_; have HK := n2_; clear n0_ n1_ n2_; clear hg hw hp_; have p7 : 0 ≤ (x5_1 : Int) := of_decide_eq_true (by first | (with_reducible assumption) | assumption); have q7 : (x5_1 : Int) < ((x0_1.length : Int) : Int) := of_decide_eq_true (by first | (with_reducible assumption) | assumption); obtain ⟨ce7, hcl7, hM7, hcc7, hfr7⟩ := Kd.R_elem HO_0.out z32 (x5_1 : Int) p7 q7; obtain rfl := k32_openM hM7; have hx7_0 : w18.cell? ⟨go5, (x5_1 : Int).toNat * 8, none⟩ = some (.int .i64 ((rd_T32 y121 x5_1).f0)) := hcc7 0 _ rfl; have hx7_1 : w18.cell? ⟨go5, (x5_1 : Int).toNat * 8 + 1, none⟩ = some (.int .i64 ((rd_T32 y121 x5_1).f1)) := hcc7 1 _ rfl; have hx7_2 : w18.cell? ⟨go5, (x5_1 : Int).toNat * 8 + 2, none⟩ = some (.int .i64 ((rd_T32 y121 x5_1).f2)) := hcc7 2 _ rfl; have hx7_3 : w18.cell? ⟨go5, (x5_1 : Int).toNat * 8 + 3, none⟩ = some (.int .i64 ((rd_T32 y121 x5_1).f3)) := hcc7 3 _ rfl; have hx7_4 : w18.cell? ⟨go5, (x5_1 : Int).toNat * 8 + 4, none⟩ = some (.int .i64 ((rd_T32 y121 x5_1).f4.f0)) := hcc7 4 _ rfl; have hx7_5 : w18.cell? ⟨go5, (x5_1 : Int).toNat * 8 + 5, none⟩ = some (.int .i64 ((rd_T32 y121 x5_1).f4.f1)) := hcc7 5 _ rfl; have hx7_6 : w18.cell? ⟨go5, (x5_1 : Int).toNat * 8 + 6, none⟩ = some (.int .i64 ((rd_T32 y121 x5_1).f5)) := hcc7 6 _ rfl; have hx7_7 : w18.cell? ⟨go5, (x5_1 : Int).toNat * 8 + 7, none⟩ = some (.string ((rd_T32 y121 x5_1).f6)) := hcc7 7 _ rfl; have hf7_0 : w18.frozen? ⟨go5, (x5_1 : Int).toNat * 8, none⟩ = false := hfr7 0; have hf7_1 : w18.frozen? ⟨go5, (x5_1 : Int).toNat * 8 + 1, none⟩ = false := hfr7 1; have hf7_2 : w18.frozen? ⟨go5, (x5_1 : Int).toNat * 8 + 2, none⟩ = false := hfr7 2; have hf7_3 : w18.frozen? ⟨go5, (x5_1 : Int).toNat * 8 + 3, none⟩ = false := hfr7 3; have hf7_4 : w18.frozen? ⟨go5, (x5_1 : Int).toNat * 8 + 4, none⟩ = false := hfr7 4; have hf7_5 : w18.frozen? ⟨go5, (x5_1 : Int).toNat * 8 + 5, none⟩ = false := hfr7 5; have hf7_6 : w18.frozen? ⟨go5, (x5_1 : Int).toNat * 8 + 6, none⟩ = false := hfr7 6; have hf7_7 : w18.frozen? ⟨go5, (x5_1 : Int).toNat * 8 + 7, none⟩ = false := hfr7 7; clear hcl7 hcc7 hfr7 hM7; replace p7 := eq_true p7; replace q7 := eq_true q7; have HX19 := zM (show Kd.R k32 32 w18 w0.heap.size (fun k_ => (P0_ k_ ∨ w.heap.size ≤ k_)) (.slice (some ⟨go5, 0, none⟩) x0_1.length co14) y121 from (by (with_reducible repeat (first | apply Kd.R_alloc | apply Kd.R_drewN | apply Kd.R_drew)); exact HO_0.out)); obtain ⟨ce19, hcl19, hM19, hcc19, hfr19⟩ := Kd.R_elem HX19.out z32 (x5_1 : Int) (of_decide_eq_true (by first | (with_reducible assumption) | assumption)) (by have h_ : (x5_1 : Int) < ((x0_1.length : Int) : Int) := of_decide_eq_true (by first | (with_reducible assumption) | assumption); first | exact h_ | (have e_ := (Kd.R_reads' HO_0.out).1; omega) | simpa using h_); obtain rfl := k32_openM hM19; have HP19 := Kd.R_seg HX19.out (x5_1 : Int) (of_decide_eq_true (by first | (with_reducible assumption) | assumption)) (by have h_ : (x5_1 : Int) < ((x0_1.length : Int) : Int) := of_decide_eq_true (by first | (with_reducible assumption) | assumption); first | exact h_ | (have e_ := (Kd.R_reads' HO_0.out).1; omega) | simpa using h_) (seg := [.int .i64 (wrap64 ((wrap64 (x1_1 + 1)) + 1))]) (j := 2) hcl19 hcc19 (show 3 ≤ 8 from by decide) (x' := (⟨(rd_T32 y121 x5_1).f0, (rd_T32 y121 x5_1).f1, wrap64 ((wrap64 (x1_1 + 1)) + 1), (rd_T32 y121 x5_1).f3, (⟨(rd_T32 y121 x5_1).f4.f0, (rd_T32 y121 x5_1).f4.f1⟩ : S30), (rd_T32 y121 x5_1).f5, (rd_T32 y121 x5_1).f6⟩ : S32)) (k32_mkM _ _ _ (⟨(rd_T32 y121 x5_1).f0, (rd_T32 y121 x5_1).f1, wrap64 ((wrap64 (x1_1 + 1)) + 1), (rd_T32 y121 x5_1).f3, (⟨(rd_T32 y121 x5_1).f4.f0, (rd_T32 y121 x5_1).f4.f1⟩ : S30), (rd_T32 y121 x5_1).f5, (rd_T32 y121 x5_1).f6⟩ : S32) ) (fun _ hk => hk); have hx19_2 := hcc19 2 _ rfl; (try simp only [show (k32).sz = 8 from rfl, Nat.mul_one, Nat.add_zero] at hx19_2); have hf19_2 := hfr19 2; (try simp only [show (k32).sz = 8 from rfl, Nat.mul_one, Nat.add_zero] at hf19_2); clear hcl19 hcc19 hfr19 hM19) | ((with_reducible refine gate_store (t := 3) (p := 30) rfl ?_); refine store_event (t := 3) (p := 30) (v := ?vo_w20) (w1 := (w18.setCell ⟨go5, (x5_1 : Int).toNat * 8 + 2, none⟩ (.int .i64 (wrap64 ((wrap64 (x1_1 + 1)) + 1))))) ?hg ?ho ?hn ?hr ?_; (case ho => rfl); (case hg => rfl); (case hn => rfl); (case hr => first | (go_simp; done) | (go_simp; rfl)); intro w20 hw; have hg : w18.grownBy w20 (some go5) := (by rw [hw]; exact HP19.2); have hp_ : Kd.R k32 32 w20 w0.heap.size (fun k_ => (P0_ k_ ∨ w.heap.size ≤ k_)) (.slice (some ⟨go5, 0, none⟩) x0_1.length co14) y122 := (by rw [hw, Ny122.out]; exact HP19.1); clear HP19; have n0_ := zM (hp_); have n1_ := zM ((by rw [hw]; exact below_set (HB.out) GB5.out : Below w0.heap.size w0 w20)); have n2_ := zM (Kept.of_grown (S := (fun k_ => P0_ k_)) hg (by repeat (first | (with_reducible first | exact HK.out | apply Kept.alloc | apply Kept.drewN | apply Kept.drew) | exact HK.out)) (fun k_ e_ => (HO_0.out.1 k_ e_))); clear HO_0; clear HB; clear HK; have HO_0 := n0_; have HB := n1_; have HK := n2_; clear n0_ n1_ n2_; clear hg hw hp_; have p8 : 0 ≤ (x5_1 : Int) := of_decide_eq_true (by first | (with_reducible assumption) | assumption); have q8 : (x5_1 : Int) < ((x0_1.length : Int) : Int) := of_decide_eq_true (by first | (with_reducible assumption) | assumption); obtain ⟨ce8, hcl8, hM8, hcc8, hfr8⟩ := Kd.R_elem HO_0.out z32 (x5_1 : Int) p8 q8; obtain rfl := k32_openM hM8; have hx8_0 : w20.cell? ⟨go5, (x5_1 : Int).toNat * 8, none⟩ = some (.int .i64 ((rd_T32 y122 x5_1).f0)) := hcc8 0 _ rfl; have hx8_1 : w20.cell? ⟨go5, (x5_1 : Int).toNat * 8 + 1, none⟩ = some (.int .i64 ((rd_T32 y122 x5_1).f1)) := hcc8 1 _ rfl; have hx8_2 : w20.cell? ⟨go5, (x5_1 : Int).toNat * 8 + 2, none⟩ = some (.int .i64 ((rd_T32 y122 x5_1).f2)) := hcc8 2 _ rfl; have hx8_3 : w20.cell? ⟨go5, (x5_1 : Int).toNat * 8 + 3, none⟩ = some (.int .i64 ((rd_T32 y122 x5_1).f3)) := hcc8 3 _ rfl; have hx8_4 : w20.cell? ⟨go5, (x5_1 : Int).toNat * 8 + 4, none⟩ = some (.int .i64 ((rd_T32 y122 x5_1).f4.f0)) := hcc8 4 _ rfl; have hx8_5 : w20.cell? ⟨go5, (x5_1 : Int).toNat * 8 + 5, none⟩ = some (.int .i64 ((rd_T32 y122 x5_1).f4.f1)) := hcc8 5 _ rfl; have hx8_6 : w20.cell? ⟨go5, (x5_1 : Int).toNat * 8 + 6, none⟩ = some (.int .i64 ((rd_T32 y122 x5_1).f5)) := hcc8 6 _ rfl; have hx8_7 : w20.cell? ⟨go5, (x5_1 : Int).toNat * 8 + 7, none⟩ = some (.string ((rd_T32 y122 x5_1).f6)) := hcc8 7 _ rfl; have hf8_0 : w20.frozen? ⟨go5, (x5_1 : Int).toNat * 8, none⟩ = false := hfr8 0; have hf8_1 : w20.frozen? ⟨go5, (x5_1 : Int).toNat * 8 + 1, none⟩ = false := hfr8 1; have hf8_2 : w20.frozen? ⟨go5, (x5_1 : Int).toNat * 8 + 2, none⟩ = false := hfr8 2; have hf8_3 : w20.frozen? ⟨go5, (x5_1 : Int).toNat * 8 + 3, none⟩ = false := hfr8 3; have hf8_4 : w20.frozen? ⟨go5, (x5_1 : Int).toNat * 8 + 4, none⟩ = false := hfr8 4; have hf8_5 : w20.frozen? ⟨go5, (x5_1 : Int).toNat * 8 + 5, none⟩ = false := hfr8 5; have hf8_6 : w20.frozen? ⟨go5, (x5_1 : Int).toNat * 8 + 6, none⟩ = false := hfr8 6; have hf8_7 : w20.frozen? ⟨go5, (x5_1 : Int).toNat * 8 + 7, none⟩ = false := hfr8 7; clear hcl8 hcc8 hfr8 hM8; replace p8 := eq_true p8; replace q8 := eq_true q8; have HX21 := zM (show Kd.R k32 32 w20 w0.heap.size (fun k_ => (P0_ k_ ∨ w.heap.size ≤ k_)) (.slice (some ⟨go5, 0, none⟩) x0_1.length co14) y122 from (by (with_reducible repeat (first | apply Kd.R_alloc | apply Kd.R_drewN | apply Kd.R_drew)); exact HO_0.out)); obtain ⟨ce21, hcl21, hM21, hcc21, hfr21⟩ := Kd.R_elem HX21.out z32 (x5_1 : Int) (of_decide_eq_true (by first | (with_reducible assumption) | assumption)) (by have h_ : (x5_1 : Int) < ((x0_1.length : Int) : Int) := of_decide_eq_true (by first | (with_reducible assumption) | assumption); first | exact h_ | (have e_ := (Kd.R_reads' HO_0.out).1; omega) | simpa using h_); obtain rfl := k32_openM hM21; have HP21 := Kd.R_seg HX21.out (x5_1 : Int) (of_decide_eq_true (by first | (with_reducible assumption) | assumption)) (by have h_ : (x5_1 : Int) < ((x0_1.length : Int) : Int) := of_decide_eq_true (by first | (with_reducible assumption) | assumption); first | exact h_ | (have e_ := (Kd.R_reads' HO_0.out).1; omega) | simpa using h_) (seg := [.int .i64 (wrap64 ((wrap64 ((wrap64 (x1_1 + 1)) + 1)) + 1))]) (j := 3) hcl21 hcc21 (show 4 ≤ 8 from by decide) (x' := (⟨(rd_T32 y122 x5_1).f0, (rd_T32 y122 x5_1).f1, (rd_T32 y122 x5_1).f2, wrap64 ((wrap64 ((wrap64 (x1_1 + 1)) + 1)) + 1), (⟨(rd_T32 y122 x5_1).f4.f0, (rd_T32 y122 x5_1).f4.f1⟩ : S30), (rd_T32 y122 x5_1).f5, (rd_T32 y122 x5_1).f6⟩ : S32)) (k32_mkM _ _ _ (⟨(rd_T32 y122 x5_1).f0, (rd_T32 y122 x5_1).f1, (rd_T32 y122 x5_1).f2, wrap64 ((wrap64 ((wrap64 (x1_1 + 1)) + 1)) + 1), (⟨(rd_T32 y122 x5_1).f4.f0, (rd_T32 y122 x5_1).f4.f1⟩ : S30), (rd_T32 y122 x5_1).f5, (rd_T32 y122 x5_1).f6⟩ : S32) ) (fun _ hk => hk); have hx21_3 := hcc21 3 _ rfl; (try simp only [show (k32).sz = 8 from rfl, Nat.mul_one, Nat.add_zero] at hx21_3); have hf21_3 := hfr21 3; (try simp only [show (k32).sz = 8 from rfl, Nat.mul_one, Nat.add_zero] at hf21_3); clear hcl21 hcc21 hfr21 hM21) | ((with_reducible refine gate_store (t := 3) (p := 37) rfl ?_); refine store_event (t := 3) (p := 37) (v := ?vo_w22) (w1 := (w20.setCell ⟨go5, (x5_1 : Int).toNat * 8 + 3, none⟩ (.int .i64 (wrap64 ((wrap64 ((wrap64 (x1_1 + 1)) + 1)) + 1))))) ?hg ?ho ?hn ?hr ?_; (case ho => rfl); (case hg => rfl); (case hn => rfl); (case hr => first | (go_simp; done) | (go_simp; rfl)); intro w22 hw; have hg : w20.grownBy w22 (some go5) := (by rw [hw]; exact HP21.2); have hp_ : Kd.R k32 32 w22 w0.heap.size (fun k_ => (P0_ k_ ∨ w.heap.size ≤ k_)) (.slice (some ⟨go5, 0, none⟩) x0_1.length co14) y123 := (by rw [hw, Ny123.out]; exact HP21.1); clear HP21; have n0_ := zM (hp_); have n1_ := zM ((by rw [hw]; exact below_set (HB.out) GB5.out : Below w0.heap.size w0 w22)); have n2_ := zM (Kept.of_grown (S := (fun k_ => P0_ k_)) hg (by repeat (first | (with_reducible first | exact HK.out | apply Kept.alloc | apply Kept.drewN | apply Kept.drew) | exact HK.out)) (fun k_ e_ => (HO_0.out.1 k_ e_))); clear HO_0; clear HB; clear HK; have HO_0 := n0_; have HB := n1_; have HK := n2_; clear n0_ n1_ n2_; clear hg hw hp_; have p9 : 0 ≤ (x5_1 : Int) := of_decide_eq_true (by first | (with_reducible assumption) | assumption); have q9 : (x5_1 : Int) < ((x0_1.length : Int) : Int) := of_decide_eq_true (by first | (with_reducible assumption) | assumption); obtain ⟨ce9, hcl9, hM9, hcc9, hfr9⟩ := Kd.R_elem HO_0.out z32 (x5_1 : Int) p9 q9; obtain rfl := k32_openM hM9; have hx9_0 : w22.cell? ⟨go5, (x5_1 : Int).toNat * 8, none⟩ = some (.int .i64 ((rd_T32 y123 x5_1).f0)) := hcc9 0 _ rfl; have hx9_1 : w22.cell? ⟨go5, (x5_1 : Int).toNat * 8 + 1, none⟩ = some (.int .i64 ((rd_T32 y123 x5_1).f1)) := hcc9 1 _ rfl; have hx9_2 : w22.cell? ⟨go5, (x5_1 : Int).toNat * 8 + 2, none⟩ = some (.int .i64 ((rd_T32 y123 x5_1).f2)) := hcc9 2 _ rfl; have hx9_3 : w22.cell? ⟨go5, (x5_1 : Int).toNat * 8 + 3, none⟩ = some (.int .i64 ((rd_T32 y123 x5_1).f3)) := hcc9 3 _ rfl; have hx9_4 : w22.cell? ⟨go5, (x5_1 : Int).toNat * 8 + 4, none⟩ = some (.int .i64 ((rd_T32 y123 x5_1).f4.f0)) := hcc9 4 _ rfl; have hx9_5 : w22.cell? ⟨go5, (x5_1 : Int).toNat * 8 + 5, none⟩ = some (.int .i64 ((rd_T32 y123 x5_1).f4.f1)) := hcc9 5 _ rfl; have hx9_6 : w22.cell? ⟨go5, (x5_1 : Int).toNat * 8 + 6, none⟩ = some (.int .i64 ((rd_T32 y123 x5_1).f5)) := hcc9 6 _ rfl; have hx9_7 : w22.cell? ⟨go5, (x5_1 : Int).toNat * 8 + 7, none⟩ = some (.string ((rd_T32 y123 x5_1).f6)) := hcc9 7 _ rfl; have hf9_0 : w22.frozen? ⟨go5, (x5_1 : Int).toNat * 8, none⟩ = false := hfr9 0; have hf9_1 : w22.frozen? ⟨go5, (x5_1 : Int).toNat * 8 + 1, none⟩ = false := hfr9 1; have hf9_2 : w22.frozen? ⟨go5, (x5_1 : Int).toNat * 8 + 2, none⟩ = false := hfr9 2; have hf9_3 : w22.frozen? ⟨go5, (x5_1 : Int).toNat * 8 + 3, none⟩ = false := hfr9 3; have hf9_4 : w22.frozen? ⟨go5, (x5_1 : Int).toNat * 8 + 4, none⟩ = false := hfr9 4; have hf9_5 : w22.frozen? ⟨go5, (x5_1 : Int).toNat * 8 + 5, none⟩ = false := hfr9 5; have hf9_6 : w22.frozen? ⟨go5, (x5_1 : Int).toNat * 8 + 6, none⟩ = false := hfr9 6; have hf9_7 : w22.frozen? ⟨go5, (x5_1 : Int).toNat * 8 + 7, none⟩ = false := hfr9 7; clear hcl9 hcc9 hfr9 hM9; replace p9 := eq_true p9; replace q9 := eq_true q9; have HX23 := zM (show Kd.R k32 32 w22 w0.heap.size (fun k_ => (P0_ k_ ∨ w.heap.size ≤ k_)) (.slice (some ⟨go5, 0, none⟩) x0_1.length co14) y123 from (by (with_reducible repeat (first | apply Kd.R_alloc | apply Kd.R_drewN | apply Kd.R_drew)); exact HO_0.out)); obtain ⟨ce23, hcl23, hM23, hcc23, hfr23⟩ := Kd.R_elem HX23.out z32 (x5_1 : Int) (of_decide_eq_true (by first | (with_reducible assumption) | assumption)) (by have h_ : (x5_1 : Int) < ((x0_1.length : Int) : Int) := of_decide_eq_true (by first | (with_reducible assumption) | assumption); first | exact h_ | (have e_ := (Kd.R_reads' HO_0.out).1; omega) | simpa using h_); obtain rfl := k32_openM hM23; have HP23 := Kd.R_seg HX23.out (x5_1 : Int) (of_decide_eq_true (by first | (with_reducible assumption) | assumption)) (by have h_ : (x5_1 : Int) < ((x0_1.length : Int) : Int) := of_decide_eq_true (by first | (with_reducible assumption) | assumption); first | exact h_ | (have e_ := (Kd.R_reads' HO_0.out).1; omega) | simpa using h_) (seg := [.int .i64 (wrap64 ((wrap64 ((wrap64 ((wrap64 (x1_1 + 1)) + 1)) + 1)) + 1))]) (j := 4) hcl23 hcc23 (show 5 ≤ 8 from by decide) (x' := (⟨(rd_T32 y123 x5_1).f0, (rd_T32 y123 x5_1).f1, (rd_T32 y123 x5_1).f2, (rd_T32 y123 x5_1).f3, (⟨wrap64 ((wrap64 ((wrap64 ((wrap64 (x1_1 + 1)) + 1)) + 1)) + 1), (rd_T32 y123 x5_1).f4.f1⟩ : S30), (rd_T32 y123 x5_1).f5, (rd_T32 y123 x5_1).f6⟩ : S32)) (k32_mkM _ _ _ (⟨(rd_T32 y123 x5_1).f0, (rd_T32 y123 x5_1).f1, (rd_T32 y123 x5_1).f2, (rd_T32 y123 x5_1).f3, (⟨wrap64 ((wrap64 ((wrap64 ((wrap64 (x1_1 + 1)) + 1)) + 1)) + 1), (rd_T32 y123 x5_1).f4.f1⟩ : S30), (rd_T32 y123 x5_1).f5, (rd_T32 y123 x5_1).f6⟩ : S32) ) (fun _ hk => hk); have hx23_4 := hcc23 4 _ rfl; (try simp only [show (k32).sz = 8 from rfl, Nat.mul_one, Nat.add_zero] at hx23_4); have hf23_4 := hfr23 4; (try simp only [show (k32).sz = 8 from rfl, Nat.mul_one, Nat.add_zero] at hf23_4); clear hcl23 hcc23 hfr23 hM23) | ((with_reducible refine gate_store (t := 3) (p := 45) rfl ?_); refine store_event (t := 3) (p := 45) (v := ?vo_w24) (w1 := (w22.setCell ⟨go5, (x5_1 : Int).toNat * 8 + 4, none⟩ (.int .i64 (wrap64 ((wrap64 ((wrap64 ((wrap64 (x1_1 + 1)) + 1)) + 1)) + 1))))) ?hg ?ho ?hn ?hr ?_; (case ho => rfl); (case hg => rfl); (case hn => rfl); (case hr => first | (go_simp; done) | (go_simp; rfl)); intro w24 hw; have hg : w22.grownBy w24 (some go5) := (by rw [hw]; exact HP23.2); have hp_ : Kd.R k32 32 w24 w0.heap.size (fun k_ => (P0_ k_ ∨ w.heap.size ≤ k_)) (.slice (some ⟨go5, 0, none⟩) x0_1.length co14) y124 := (by rw [hw, Ny124.out]; exact HP23.1); clear HP23; have n0_ := zM (hp_); have n1_ := zM ((by rw [hw]; exact below_set (HB.out) GB5.out : Below w0.heap.size w0 w24)); have n2_ := zM (Kept.of_grown (S := (fun k_ => P0_ k_)) hg (by repeat (first | (with_reducible first | exact HK.out | apply Kept.alloc | apply Kept.drewN | apply Kept.drew) | exact HK.out)) (fun k_ e_ => (HO_0.out.1 k_ e_))); clear HO_0; clear HB; clear HK; have HO_0 := n0_; have HB := n1_; have HK := n2_; clear n0_ n1_ n2_; clear hg hw hp_; have p10 : 0 ≤ (x5_1 : Int) := of_decide_eq_true (by first | (with_reducible assumption) | assumption); have q10 : (x5_1 : Int) < ((x0_1.length : Int) : Int) := of_decide_eq_true (by first | (with_reducible assumption) | assumption); obtain ⟨ce10, hcl10, hM10, hcc10, hfr10⟩ := Kd.R_elem HO_0.out z32 (x5_1 : Int) p10 q10; obtain rfl := k32_openM hM10; have hx10_0 : w24.cell? ⟨go5, (x5_1 : Int).toNat * 8, none⟩ = some (.int .i64 ((rd_T32 y124 x5_1).f0)) := hcc10 0 _ rfl; have hx10_1 : w24.cell? ⟨go5, (x5_1 : Int).toNat * 8 + 1, none⟩ = some (.int .i64 ((rd_T32 y124 x5_1).f1)) := hcc10 1 _ rfl; have hx10_2 : w24.cell? ⟨go5, (x5_1 : Int).toNat * 8 + 2, none⟩ = some (.int .i64 ((rd_T32 y124 x5_1).f2)) := hcc10 2 _ rfl; have hx10_3 : w24.cell? ⟨go5, (x5_1 : Int).toNat * 8 + 3, none⟩ = some (.int .i64 ((rd_T32 y124 x5_1).f3)) := hcc10 3 _ rfl; have hx10_4 : w24.cell? ⟨go5, (x5_1 : Int).toNat * 8 + 4, none⟩ = some (.int .i64 ((rd_T32 y124 x5_1).f4.f0)) := hcc10 4 _ rfl; have hx10_5 : w24.cell? ⟨go5, (x5_1 : Int).toNat * 8 + 5, none⟩ = some (.int .i64 ((rd_T32 y124 x5_1).f4.f1)) := hcc10 5 _ rfl; have hx10_6 : w24.cell? ⟨go5, (x5_1 : Int).toNat * 8 + 6, none⟩ = some (.int .i64 ((rd_T32 y124 x5_1).f5)) := hcc10 6 _ rfl; have hx10_7 : w24.cell? ⟨go5, (x5_1 : Int).toNat * 8 + 7, none⟩ = some (.string ((rd_T32 y124 x5_1).f6)) := hcc10 7 _ rfl; have hf10_0 : w24.frozen? ⟨go5, (x5_1 : Int).toNat * 8, none⟩ = false := hfr10 0; have hf10_1 : w24.frozen? ⟨go5, (x5_1 : Int).toNat * 8 + 1, none⟩ = false := hfr10 1; have hf10_2 : w24.frozen? ⟨go5, (x5_1 : Int).toNat * 8 + 2, none⟩ = false := hfr10 2; have hf10_3 : w24.frozen? ⟨go5, (x5_1 : Int).toNat * 8 + 3, none⟩ = false := hfr10 3; have hf10_4 : w24.frozen? ⟨go5, (x5_1 : Int).toNat * 8 + 4, none⟩ = false := hfr10 4; have hf10_5 : w24.frozen? ⟨go5, (x5_1 : Int).toNat * 8 + 5, none⟩ = false := hfr10 5; have hf10_6 : w24.frozen? ⟨go5, (x5_1 : Int).toNat * 8 + 6, none⟩ = false := hfr10 6; have hf10_7 : w24.frozen? ⟨go5, (x5_1 : Int).toNat * 8 + 7, none⟩ = false := hfr10 7; clear hcl10 hcc10 hfr10 hM10; replace p10 := eq_true p10; replace q10 := eq_true q10; have HX25 := zM (show Kd.R k32 32 w24 w0.heap.size (fun k_ => (P0_ k_ ∨ w.heap.size ≤ k_)) (.slice (some ⟨go5, 0, none⟩) x0_1.length co14) y124 from (by (with_reducible repeat (first | apply Kd.R_alloc | apply Kd.R_drewN | apply Kd.R_drew)); exact HO_0.out)); obtain ⟨ce25, hcl25, hM25, hcc25, hfr25⟩ := Kd.R_elem HX25.out z32 (x5_1 : Int) (of_decide_eq_true (by first | (with_reducible assumption) | assumption)) (by have h_ : (x5_1 : Int) < ((x0_1.length : Int) : Int) := of_decide_eq_true (by first | (with_reducible assumption) | assumption); first | exact h_ | (have e_ := (Kd.R_reads' HO_0.out).1; omega) | simpa using h_); obtain rfl := k32_openM hM25; have HP25 := Kd.R_seg HX25.out (x5_1 : Int) (of_decide_eq_true (by first | (with_reducible assumption) | assumption)) (by have h_ : (x5_1 : Int) < ((x0_1.length : Int) : Int) := of_decide_eq_true (by first | (with_reducible assumption) | assumption); first | exact h_ | (have e_ := (Kd.R_reads' HO_0.out).1; omega) | simpa using h_) (seg := [.int .i64 (wrap64 ((wrap64 ((wrap64 ((wrap64 ((wrap64 (x1_1 + 1)) + 1)) + 1)) + 1)) + 1))]) (j := 5) hcl25 hcc25 (show 6 ≤ 8 from by decide) (x' := (⟨(rd_T32 y124 x5_1).f0, (rd_T32 y124 x5_1).f1, (rd_T32 y124 x5_1).f2, (rd_T32 y124 x5_1).f3, (⟨(rd_T32 y124 x5_1).f4.f0, wrap64 ((wrap64 ((wrap64 ((wrap64 ((wrap64 (x1_1 + 1)) + 1)) + 1)) + 1)) + 1)⟩ : S30), (rd_T32 y124 x5_1).f5, (rd_T32 y124 x5_1).f6⟩ : S32)) (k32_mkM _ _ _ (⟨(rd_T32 y124 x5_1).f0, (rd_T32 y124 x5_1).f1, (rd_T32 y124 x5_1).f2, (rd_T32 y124 x5_1).f3, (⟨(rd_T32 y124 x5_1).f4.f0, wrap64 ((wrap64 ((wrap64 ((wrap64 ((wrap64 (x1_1 + 1)) + 1)) + 1)) + 1)) + 1)⟩ : S30), (rd_T32 y124 x5_1).f5, (rd_T32 y124 x5_1).f6⟩ : S32) ) (fun _ hk => hk); have hx25_5 := hcc25 5 _ rfl; (try simp only [show (k32).sz = 8 from rfl, Nat.mul_one, Nat.add_zero] at hx25_5); have hf25_5 := hfr25 5; (try simp only [show (k32).sz = 8 from rfl, Nat.mul_one, Nat.add_zero] at hf25_5); clear hcl25 hcc25 hfr25 hM25) | ((with_reducible refine gate_store (t := 3) (p := 53) rfl ?_); refine store_event (t := 3) (p := 53) (v := ?vo_w26) (w1 := (w24.setCell ⟨go5, (x5_1 : Int).toNat * 8 + 5, none⟩ (.int .i64 (wrap64 ((wrap64 ((wrap64 ((wrap64 ((wrap64 (x1_1 + 1)) + 1)) + 1)) + 1)) + 1))))) ?hg ?ho ?hn ?hr ?_; (case ho => rfl); (case hg => rfl); (case hn => rfl); (case hr => first | (go_simp; done) | (go_simp; rfl)); intro w26 hw; have hg : w24.grownBy w26 (some go5) := (by rw [hw]; exact HP25.2); have hp_ : Kd.R k32 32 w26 w0.heap.size (fun k_ => (P0_ k_ ∨ w.heap.size ≤ k_)) (.slice (some ⟨go5, 0, none⟩) x0_1.length co14) y125 := (by rw [hw, Ny125.out]; exact HP25.1); clear HP25; have n0_ := zM (hp_); have n1_ := zM ((by rw [hw]; exact below_set (HB.out) GB5.out : Below w0.heap.size w0 w26)); have n2_ := zM (Kept.of_grown (S := (fun k_ => P0_ k_)) hg (by repeat (first | (with_reducible first | exact HK.out | apply Kept.alloc | apply Kept.drewN | apply Kept.drew) | exact HK.out)) (fun k_ e_ => (HO_0.out.1 k_ e_))); clear HO_0; clear HB; clear HK; have HO_0 := n0_; have HB := n1_; have HK := n2_; clear n0_ n1_ n2_; clear hg hw hp_; have p11 : 0 ≤ (x5_1 : Int) := of_decide_eq_true (by first | (with_reducible assumption) | assumption); have q11 : (x5_1 : Int) < ((x0_1.length : Int) : Int) := of_decide_eq_true (by first | (with_reducible assumption) | assumption); obtain ⟨ce11, hcl11, hM11, hcc11, hfr11⟩ := Kd.R_elem HO_0.out z32 (x5_1 : Int) p11 q11; obtain rfl := k32_openM hM11; have hx11_0 : w26.cell? ⟨go5, (x5_1 : Int).toNat * 8, none⟩ = some (.int .i64 ((rd_T32 y125 x5_1).f0)) := hcc11 0 _ rfl; have hx11_1 : w26.cell? ⟨go5, (x5_1 : Int).toNat * 8 + 1, none⟩ = some (.int .i64 ((rd_T32 y125 x5_1).f1)) := hcc11 1 _ rfl; have hx11_2 : w26.cell? ⟨go5, (x5_1 : Int).toNat * 8 + 2, none⟩ = some (.int .i64 ((rd_T32 y125 x5_1).f2)) := hcc11 2 _ rfl; have hx11_3 : w26.cell? ⟨go5, (x5_1 : Int).toNat * 8 + 3, none⟩ = some (.int .i64 ((rd_T32 y125 x5_1).f3)) := hcc11 3 _ rfl; have hx11_4 : w26.cell? ⟨go5, (x5_1 : Int).toNat * 8 + 4, none⟩ = some (.int .i64 ((rd_T32 y125 x5_1).f4.f0)) := hcc11 4 _ rfl; have hx11_5 : w26.cell? ⟨go5, (x5_1 : Int).toNat * 8 + 5, none⟩ = some (.int .i64 ((rd_T32 y125 x5_1).f4.f1)) := hcc11 5 _ rfl; have hx11_6 : w26.cell? ⟨go5, (x5_1 : Int).toNat * 8 + 6, none⟩ = some (.int .i64 ((rd_T32 y125 x5_1).f5)) := hcc11 6 _ rfl; have hx11_7 : w26.cell? ⟨go5, (x5_1 : Int).toNat * 8 + 7, none⟩ = some (.string ((rd_T32 y125 x5_1).f6)) := hcc11 7 _ rfl; have hf11_0 : w26.frozen? ⟨go5, (x5_1 : Int).toNat * 8, none⟩ = false := hfr11 0; have hf11_1 : w26.frozen? ⟨go5, (x5_1 : Int).toNat * 8 + 1, none⟩ = false := hfr11 1; have hf11_2 : w26.frozen? ⟨go5, (x5_1 : Int).toNat * 8 + 2, none⟩ = false := hfr11 2; have hf11_3 : w26.frozen? ⟨go5, (x5_1 : Int).toNat * 8 + 3, none⟩ = false := hfr11 3; have hf11_4 : w26.frozen? ⟨go5, (x5_1 : Int).toNat * 8 + 4, none⟩ = false := hfr11 4; have hf11_5 : w26.frozen? ⟨go5, (x5_1 : Int).toNat * 8 + 5, none⟩ = false := hfr11 5; have hf11_6 : w26.frozen? ⟨go5, (x5_1 : Int).toNat * 8 + 6, none⟩ = false := hfr11 6; have hf11_7 : w26.frozen? ⟨go5, (x5_1 : Int).toNat * 8 + 7, none⟩ = false := hfr11 7; clear hcl11 hcc11 hfr11 hM11; replace p11 := eq_true p11; replace q11 := eq_true q11; have HX27 := zM (show Kd.R k32 32 w26 w0.heap.size (fun k_ => (P0_ k_ ∨ w.heap.size ≤ k_)) (.slice (some ⟨go5, 0, none⟩) x0_1.length co14) y125 from (by (with_reducible repeat (first | apply Kd.R_alloc | apply Kd.R_drewN | apply Kd.R_drew)); exact HO_0.out)); obtain ⟨ce27, hcl27, hM27, hcc27, hfr27⟩ := Kd.R_elem HX27.out z32 (x5_1 : Int) (of_decide_eq_true (by first | (with_reducible assumption) | assumption)) (by have h_ : (x5_1 : Int) < ((x0_1.length : Int) : Int) := of_decide_eq_true (by first | (with_reducible assumption) | assumption); first | exact h_ | (have e_ := (Kd.R_reads' HO_0.out).1; omega) | simpa using h_); obtain rfl := k32_openM hM27; have HP27 := Kd.R_seg HX27.out (x5_1 : Int) (of_decide_eq_true (by first | (with_reducible assumption) | assumption)) (by have h_ : (x5_1 : Int) < ((x0_1.length : Int) : Int) := of_decide_eq_true (by first | (with_reducible assumption) | assumption); first | exact h_ | (have e_ := (Kd.R_reads' HO_0.out).1; omega) | simpa using h_) (seg := [.int .i64 (wrap64 ((wrap64 ((wrap64 ((wrap64 ((wrap64 ((wrap64 (x1_1 + 1)) + 1)) + 1)) + 1)) + 1)) + 1))]) (j := 6) hcl27 hcc27 (show 7 ≤ 8 from by decide) (x' := (⟨(rd_T32 y125 x5_1).f0, (rd_T32 y125 x5_1).f1, (rd_T32 y125 x5_1).f2, (rd_T32 y125 x5_1).f3, (⟨(rd_T32 y125 x5_1).f4.f0, (rd_T32 y125 x5_1).f4.f1⟩ : S30), wrap64 ((wrap64 ((wrap64 ((wrap64 ((wrap64 ((wrap64 (x1_1 + 1)) + 1)) + 1)) + 1)) + 1)) + 1), (rd_T32 y125 x5_1).f6⟩ : S32)) (k32_mkM _ _ _ (⟨(rd_T32 y125 x5_1).f0, (rd_T32 y125 x5_1).f1, (rd_T32 y125 x5_1).f2, (rd_T32 y125 x5_1).f3, (⟨(rd_T32 y125 x5_1).f4.f0, (rd_T32 y125 x5_1).f4.f1⟩ : S30), wrap64 ((wrap64 ((wrap64 ((wrap64 ((wrap64 ((wrap64 (x1_1 + 1)) + 1)) + 1)) + 1)) + 1)) + 1), (rd_T32 y125 x5_1).f6⟩ : S32) ) (fun _ hk => hk); have hx27_6 := hcc27 6 _ rfl; (try simp only [show (k32).sz = 8 from rfl, Nat.mul_one, Nat.add_zero] at hx27_6); have hf27_6 := hfr27 6; (try simp only [show (k32).sz = 8 from rfl, Nat.mul_one, Nat.add_zero] at hf27_6); clear hcl27 hcc27 hfr27 hM27) | ((with_reducible refine gate_store (t := 3) (p := 60) rfl ?_); refine store_event (t := 3) (p := 60) (v := ?vo_w28) (w1 := (w26.setCell ⟨go5, (x5_1 : Int).toNat * 8 + 6, none⟩ (.int .i64 (wrap64 ((wrap64 ((wrap64 ((wrap64 ((wrap64 ((wrap64 (x1_1 + 1)) + 1)) + 1)) + 1)) + 1)) + 1))))) ?hg ?ho ?hn ?hr ?_; (case ho => rfl); (case hg => rfl); (case hn => rfl); (case hr => first | (go_simp; done) | (go_simp; rfl)); intro w28 hw; have hg : w26.grownBy w28 (some go5) := (by rw [hw]; exact HP27.2); have hp_ : Kd.R k32 32 w28 w0.heap.size (fun k_ => (P0_ k_ ∨ w.heap.size ≤ k_)) (.slice (some ⟨go5, 0, none⟩) x0_1.length co14) y126 := (by rw [hw, Ny126.out]; exact HP27.1); clear HP27; have n0_ := zM (hp_); have n1_ := zM ((by rw [hw]; exact below_set (HB.out) GB5.out : Below w0.heap.size w0 w28)); have n2_ := zM (Kept.of_grown (S := (fun k_ => P0_ k_)) hg (by repeat (first | (with_reducible first | exact HK.out | apply Kept.alloc | apply Kept.drewN | apply Kept.drew) | exact HK.out)) (fun k_ e_ => (HO_0.out.1 k_ e_))); clear HO_0; clear HB; clear HK; have HO_0 := n0_; have HB := n1_; have HK := n2_; clear n0_ n1_ n2_; clear hg hw hp_) | ((with_reducible refine gate_callee (f := 57) rfl ?_); refine goesL_ (some 66) rfl rfl Try.func57 (by kernel_rfl) rfl #[.int .i64 (wrap64 ((wrap64 ((wrap64 ((wrap64 ((wrap64 ((wrap64 ((wrap64 (x1_1 + 1)) + 1)) + 1)) + 1)) + 1)) + 1)) + 1))] rfl (by (try simp only [List.map_toArray, List.map_cons, List.map_nil]); first | done | rfl) ?_; (with_reducible refine (laws_markText.calls k1 (wrap64 ((wrap64 ((wrap64 ((wrap64 ((wrap64 ((wrap64 ((wrap64 (x1_1 + 1)) + 1)) + 1)) + 1)) + 1)) + 1)) + 1)) t127 _ A12.out).mono ?_); rintro e w29 ⟨rfl, hb⟩; refine ⟨_, rfl, ?_⟩; have n0_ := zM (Kd.R_below (by (with_reducible repeat (first | apply Kd.R_alloc | apply Kd.R_drewN | apply Kd.R_drew)); exact HO_0.out) hb); have n1_ := zM (Kept.below (S := (fun k_ => P0_ k_)) (by repeat (first | (with_reducible first | exact HK.out | apply Kept.alloc | apply Kept.drewN | apply Kept.drew) | exact HK.out)) hb); have n2_ := zM (bG (by repeat (first | (with_reducible first | exact HB.out | apply bE | apply bD | apply bF) | exact HB.out)) hb); clear HO_0; clear HK; clear HB; have HO_0 := n0_; have HK := n1_; have HB := n2_; clear n0_ n1_ n2_; (try clear hb); (try clear hk); (try clear hi); have p13 : 0 ≤ (x5_1 : Int) := of_decide_eq_true (by first | (with_reducible assumption) | assumption); have q13 : (x5_1 : Int) < ((x0_1.length : Int) : Int) := of_decide_eq_true (by first | (with_reducible assumption) | assumption); obtain ⟨ce13, hcl13, hM13, hcc13, hfr13⟩ := Kd.R_elem HO_0.out z32 (x5_1 : Int) p13 q13; obtain rfl := k32_openM hM13; have hx13_0 : w29.cell? ⟨go5, (x5_1 : Int).toNat * 8, none⟩ = some (.int .i64 ((rd_T32 y126 x5_1).f0)) := hcc13 0 _ rfl; have hx13_1 : w29.cell? ⟨go5, (x5_1 : Int).toNat * 8 + 1, none⟩ = some (.int .i64 ((rd_T32 y126 x5_1).f1)) := hcc13 1 _ rfl; have hx13_2 : w29.cell? ⟨go5, (x5_1 : Int).toNat * 8 + 2, none⟩ = some (.int .i64 ((rd_T32 y126 x5_1).f2)) := hcc13 2 _ rfl; have hx13_3 : w29.cell? ⟨go5, (x5_1 : Int).toNat * 8 + 3, none⟩ = some (.int .i64 ((rd_T32 y126 x5_1).f3)) := hcc13 3 _ rfl; have hx13_4 : w29.cell? ⟨go5, (x5_1 : Int).toNat * 8 + 4, none⟩ = some (.int .i64 ((rd_T32 y126 x5_1).f4.f0)) := hcc13 4 _ rfl; have hx13_5 : w29.cell? ⟨go5, (x5_1 : Int).toNat * 8 + 5, none⟩ = some (.int .i64 ((rd_T32 y126 x5_1).f4.f1)) := hcc13 5 _ rfl; have hx13_6 : w29.cell? ⟨go5, (x5_1 : Int).toNat * 8 + 6, none⟩ = some (.int .i64 ((rd_T32 y126 x5_1).f5)) := hcc13 6 _ rfl; have hx13_7 : w29.cell? ⟨go5, (x5_1 : Int).toNat * 8 + 7, none⟩ = some (.string ((rd_T32 y126 x5_1).f6)) := hcc13 7 _ rfl; have hf13_0 : w29.frozen? ⟨go5, (x5_1 : Int).toNat * 8, none⟩ = false := hfr13 0; have hf13_1 : w29.frozen? ⟨go5, (x5_1 : Int).toNat * 8 + 1, none⟩ = false := hfr13 1; have hf13_2 : w29.frozen? ⟨go5, (x5_1 : Int).toNat * 8 + 2, none⟩ = false := hfr13 2; have hf13_3 : w29.frozen? ⟨go5, (x5_1 : Int).toNat * 8 + 3, none⟩ = false := hfr13 3; have hf13_4 : w29.frozen? ⟨go5, (x5_1 : Int).toNat * 8 + 4, none⟩ = false := hfr13 4; have hf13_5 : w29.frozen? ⟨go5, (x5_1 : Int).toNat * 8 + 5, none⟩ = false := hfr13 5; have hf13_6 : w29.frozen? ⟨go5, (x5_1 : Int).toNat * 8 + 6, none⟩ = false := hfr13 6; have hf13_7 : w29.frozen? ⟨go5, (x5_1 : Int).toNat * 8 + 7, none⟩ = false := hfr13 7; clear hcl13 hcc13 hfr13 hM13; replace p13 := eq_true p13; replace q13 := eq_true q13; have HX30 := zM (show Kd.R k32 32 w29 w0.heap.size (fun k_ => (P0_ k_ ∨ w.heap.size ≤ k_)) (.slice (some ⟨go5, 0, none⟩) x0_1.length co14) y126 from (by (with_reducible repeat (first | apply Kd.R_alloc | apply Kd.R_drewN | apply Kd.R_drew)); exact HO_0.out)); obtain ⟨ce30, hcl30, hM30, hcc30, hfr30⟩ := Kd.R_elem HX30.out z32 (x5_1 : Int) (of_decide_eq_true (by first | (with_reducible assumption) | assumption)) (by have h_ : (x5_1 : Int) < ((x0_1.length : Int) : Int) := of_decide_eq_true (by first | (with_reducible assumption) | assumption); first | exact h_ | (have e_ := (Kd.R_reads' HO_0.out).1; omega) | simpa using h_); obtain rfl := k32_openM hM30; have HP30 := Kd.R_seg HX30.out (x5_1 : Int) (of_decide_eq_true (by first | (with_reducible assumption) | assumption)) (by have h_ : (x5_1 : Int) < ((x0_1.length : Int) : Int) := of_decide_eq_true (by first | (with_reducible assumption) | assumption); first | exact h_ | (have e_ := (Kd.R_reads' HO_0.out).1; omega) | simpa using h_) (seg := [.string t127]) (j := 7) hcl30 hcc30 (show 8 ≤ 8 from by decide) (x' := (⟨(rd_T32 y126 x5_1).f0, (rd_T32 y126 x5_1).f1, (rd_T32 y126 x5_1).f2, (rd_T32 y126 x5_1).f3, (⟨(rd_T32 y126 x5_1).f4.f0, (rd_T32 y126 x5_1).f4.f1⟩ : S30), (rd_T32 y126 x5_1).f5, t127⟩ : S32)) (k32_mkM _ _ _ (⟨(rd_T32 y126 x5_1).f0, (rd_T32 y126 x5_1).f1, (rd_T32 y126 x5_1).f2, (rd_T32 y126 x5_1).f3, (⟨(rd_T32 y126 x5_1).f4.f0, (rd_T32 y126 x5_1).f4.f1⟩ : S30), (rd_T32 y126 x5_1).f5, t127⟩ : S32) ) (fun _ hk => hk); have hx30_7 := hcc30 7 _ rfl; (try simp only [show (k32).sz = 8 from rfl, Nat.mul_one, Nat.add_zero] at hx30_7); have hf30_7 := hfr30 7; (try simp only [show (k32).sz = 8 from rfl, Nat.mul_one, Nat.add_zero] at hf30_7); clear hcl30 hcc30 hfr30 hM30) | ((with_reducible refine gate_store (t := 9) (p := 68) rfl ?_); refine store_event (t := 9) (p := 68) (v := ?vo_w31) (w1 := (w29.setCell ⟨go5, (x5_1 : Int).toNat * 8 + 7, none⟩ (.string t127))) ?hg ?ho ?hn ?hr ?_; (case ho => rfl); (case hg => rfl); (case hn => rfl); (case hr => first | (go_simp; done) | (go_simp; rfl)); intro w31 hw; have hg : w29.grownBy w31 (some go5) := (by rw [hw]; exact HP30.2); have hp_ : Kd.R k32 32 w31 w0.heap.size (fun k_ => (P0_ k_ ∨ w.heap.size ≤ k_)) (.slice (some ⟨go5, 0, none⟩) x0_1.length co14) y128 := (by rw [hw, Ny128.out]; exact HP30.1); clear HP30; have n0_ := zM (hp_); have n1_ := zM ((by rw [hw]; exact below_set (HB.out) GB5.out : Below w0.heap.size w0 w31)); have n2_ := zM (Kept.of_grown (S := (fun k_ => P0_ k_)) hg (by repeat (first | (with_reducible first | exact HK.out | apply Kept.alloc | apply Kept.drewN | apply Kept.drew) | exact HK.out)) (fun k_ e_ => (HO_0.out.1 k_ e_))); clear HO_0; clear HB; clear HK; have HO_0 := n0_; have HB := n1_; have HK := n2_; clear n0_ n1_ n2_; clear hg hw hp_))
     go_roundg k1
     case measure => have := HK1.out; omega
     case rel => exact ⟨(y128), (wrap64 ((wrap64 ((wrap64 ((wrap64 ((wrap64 ((wrap64 ((wrap64 ((wrap64 (x1_1 + 1)) + 1)) + 1)) + 1)) + 1)) + 1)) + 1)) + 1)), (wrap64 (x5_1 + 1)), (by first | rfl | (simp; done) | (simp [*]; done)), (by first | rfl | (simp; done) | (simp [*]; done)), H', ⟨by have := HK1.out; omega⟩, ⟨by (with_reducible repeat (first | apply Kd.R_alloc | apply Kd.R_drewN | apply Kd.R_drew)); exact HO_0.out⟩, ⟨by repeat (first | (with_reducible first | exact HK.out | apply Kept.alloc | apply Kept.drewN | apply Kept.drew) | exact HK.out)⟩, ⟨by repeat (first | (with_reducible first | exact HB.out | apply bE | apply bD | apply bF) | exact HB.out)⟩⟩
    ·rw [if_neg c4] at H
     exact absurd H (by simp)
   ·rw [if_neg c3] at H
    have c3b0 : decide (x5_1 < (x0_1.length : Int)) = false := decide_eq_false c3
    clear c3
    simp only [zI, zJ] at H
    obtain ⟨rfl, rfl⟩ := H
    obtain ⟨Ao32, co32, eo32⟩ := Kd.R_slice HO_0.out
    subst eo32
    go_wp2
    go_ret
    exact ⟨by first | rfl | (simp [*, errW_none, errW_some] <;> rfl), by (with_reducible repeat (first | apply Kd.R_alloc | apply Kd.R_drewN | apply Kd.R_drew)); exact HO_0.out, by repeat (first | (with_reducible first | exact HB.out | apply bE | apply bD | apply bF) | exact HB.out), by repeat (first | (with_reducible first | exact HK.out | apply Kept.alloc | apply Kept.drewN | apply Kept.drew) | exact HK.out)⟩

/-! ### spec_l1In: function 43 -/
def spec_l1In.f (a0 : Int) (a1 : Int) (a2 : Int) : Option (Bool) := if a0 ≥ a1 then (some (decide (a0 ≤ a2))) else (some false)
theorem spec_l1In.calls (a0 : Int) (a1 : Int) (a2 : Int) (r : Bool) (w : World) (h : spec_l1In.f a0 a1 a2 = some r) :
  Calls Try.prog 43 #[.int .i64 a0, .int .i64 a1, .int .i64 a2] w fun e w' => e = .returned (.bool r) ∧ Drawn0 w w' := by
 have H : (if a0 ≥ a1 then (some (decide (a0 ≤ a2))) else (some false)) = some r := h
 clear h
 by_cases c4 : a0 ≥ a1
 ·rw [if_pos c4] at H
  have c4b0 : decide (a1 ≤ a0) = true := decide_eq_true c4
  clear c4
  obtain rfl := Option.some.inj H
  simp only [zI, zJ] at H
  obtain ⟨rfl⟩ := H
  go_enter Try.func43, Try.ntmps43
  go_wp2
  go_ret
  exact ⟨by first | rfl | (simp; done) | (simp [*]; done), by repeat (first | exact Drawn0.refl _ | apply Drawn0.step)⟩
 ·rw [if_neg c4] at H
  have c4b0 : decide (a1 ≤ a0) = false := decide_eq_false c4
  clear c4
  obtain rfl := Option.some.inj H
  simp only [zI, zJ] at H
  obtain ⟨rfl⟩ := H
  go_enter Try.func43, Try.ntmps43
  go_wp2
  go_ret
  exact ⟨by first | rfl | (simp; done) | (simp [*]; done), by repeat (first | exact Drawn0.refl _ | apply Drawn0.step)⟩

/-! ### spec_l4Node: function 54 -/
def spec_l4Node.f (a0 : Int) : Option (Bool) := (spec_l1In.f a0 0 7).bind fun t129 => (some t129)
theorem spec_l4Node.calls (a0 : Int) (r : Bool) (w : World) (h : spec_l4Node.f a0 = some r) :
  Calls Try.prog 54 #[.int .i64 a0] w fun e w' => e = .returned (.bool r) ∧ Drawn0 w w' := by
 have H : ((spec_l1In.f a0 0 7).bind fun t129 => (some t129)) = some r := h
 clear h
 replace H := zO H
 obtain ⟨t129, A20, H⟩ := H
 replace H : (some t129) = some r := H
 have A2 := zM A20
 clear A20
 obtain rfl := Option.some.inj H
 simp only [zI, zJ] at H
 obtain ⟨rfl⟩ := H
 go_enter Try.func54, Try.ntmps54
 go_wp2_with (first | ((with_reducible refine gate_callee (f := 43) rfl ?_); refine goesL_ (some 4) rfl rfl Try.func43 (by kernel_rfl) rfl #[.int .i64 a0, .int .i64 0, .int .i64 7] rfl (by (try simp only [List.map_toArray, List.map_cons, List.map_nil]); first | done | rfl) ?_; (with_reducible refine (spec_l1In.calls a0 0 7 t129 _ A2.out).mono ?_); rintro e w' ⟨rfl, ⟨nd, rfl⟩⟩; refine ⟨_, rfl, ?_⟩))
 go_ret
 exact ⟨by first | rfl | (simp; done) | (simp [*]; done), by repeat (first | exact Drawn0.refl _ | apply Drawn0.step)⟩

/-! ### spec_IvalOk: function 55 -/
def spec_IvalOk.f (a0_0 : Int) (a0_1 : Int) : Option (Bool) := if a0_0 ≤ a0_1 then ((spec_l1In.f a0_0 (-1000000000000) 1000000000000).bind fun t131 => (if t131 = true then ((spec_l1In.f a0_1 (-1000000000000) 1000000000000).bind fun t132 => (some t132)) else (some false))) else (some false)
theorem spec_IvalOk.calls (a0_0 : Int) (a0_1 : Int) (r : Bool) (w : World) (h : spec_IvalOk.f a0_0 a0_1 = some r) :
  Calls Try.prog 55 #[.agg #[.int .i64 a0_0, .int .i64 a0_1]] w fun e w' => e = .returned (.bool r) ∧ Below w.heap.size w w' := by
 have hu30 := Try.underlying30
 have HB := zM (Below.refl w.heap.size w)
 have H : (if a0_0 ≤ a0_1 then ((spec_l1In.f a0_0 (-1000000000000) 1000000000000).bind fun t131 => (if t131 = true then ((spec_l1In.f a0_1 (-1000000000000) 1000000000000).bind fun t132 => (some t132)) else (some false))) else (some false)) = some r := h
 clear h
 by_cases c2 : a0_0 ≤ a0_1
 ·rw [if_pos c2] at H
  have c2b0 : decide (a0_0 ≤ a0_1) = true := decide_eq_true c2
  clear c2
  replace H := zO H
  obtain ⟨t131, A30, H⟩ := H
  replace H : (if t131 = true then ((spec_l1In.f a0_1 (-1000000000000) 1000000000000).bind fun t132 => (some t132)) else (some false)) = some r := H
  have A3 := zM A30
  clear A30
  by_cases c4 : t131 = true
  ·subst c4
   have H1 : ((spec_l1In.f a0_1 (-1000000000000) 1000000000000).bind fun t132 => (some t132)) = some r := by rw [if_pos rfl] at H; exact H
   clear H
   have H := H1
   clear H1
   replace H := zO H
   obtain ⟨t132, A50, H⟩ := H
   replace H : (some t132) = some r := H
   have A5 := zM A50
   clear A50
   obtain rfl := Option.some.inj H
   simp only [zI, zJ] at H
   obtain ⟨rfl⟩ := H
   go_enter Try.func55, Try.ntmps55
   go_wp2_with (first | ((with_reducible refine gate_dst (N := 1) rfl ?_); refine box_event ?hg (N := 1) ?hd (cs := #[.int .i64 a0_0, .int .i64 a0_1]) (t := 30) ?hr ?_; (case hd => rfl); (case hg => rfl); (case hr => first | (go_simp; done) | (go_simp; rfl)); intro gb130 hg w6 hbox hb; have n0_ := zM (bG (by repeat (first | (with_reducible first | exact HB.out | apply bE | apply bD | apply bF) | exact HB.out)) hb); have n1_ := zM (hbox); have n2_ := zM ((by rw [hg]; exact (below_size (by repeat (first | (with_reducible first | exact HB.out | apply bE | apply bD | apply bF) | exact HB.out))) : w.heap.size ≤ gb130)); have n3_ := zM ((by rw [hg]; exact (below_size (by repeat (first | (with_reducible first | exact HB.out | apply bE | apply bD | apply bF) | exact HB.out))) : w.heap.size ≤ gb130)); clear HB; have HB := n0_; have BK130 := n1_; have GW130 := n2_; have GE130 := n3_; clear n0_ n1_ n2_ n3_; clear hb hbox hg; have hcz7_0 : w6.cell? ⟨gb130, 0, none⟩ = some (.int .i64 a0_0) := (blk_cell BK130.out 0).trans rfl; have hcz7_1 : w6.cell? ⟨gb130, 1, none⟩ = some (.int .i64 a0_1) := (blk_cell BK130.out 1).trans rfl; have hfz7_0 := blk_frozen BK130.out 0; have hfz7_1 := blk_frozen BK130.out 1) | (go_at_call 43; (with_reducible refine (spec_l1In.calls a0_0 (-1000000000000) 1000000000000 true _ A3.out).mono ?_); rintro e w' ⟨rfl, ⟨nd, rfl⟩⟩) | (go_at_call 43; (with_reducible refine (spec_l1In.calls a0_1 (-1000000000000) 1000000000000 t132 _ A5.out).mono ?_); rintro e w' ⟨rfl, ⟨nd, rfl⟩⟩))
   go_ret
   exact ⟨by first | rfl | (simp [*, errW_none, errW_some] <;> rfl), by repeat (first | (with_reducible first | exact HB.out | apply bE | apply bD | apply bF | refine below_set ?_ GE130.out) | exact HB.out)⟩
  ·replace c4 := Bool.eq_false_iff.mpr c4
   subst c4
   have H1 : (some false) = some r := by rw [if_neg (show ¬ (false = true) by decide)] at H; exact H
   clear H
   have H := H1
   clear H1
   obtain rfl := Option.some.inj H
   simp only [zI, zJ] at H
   obtain ⟨rfl⟩ := H
   go_enter Try.func55, Try.ntmps55
   go_wp2_with (first | ((with_reducible refine gate_dst (N := 1) rfl ?_); refine box_event ?hg (N := 1) ?hd (cs := #[.int .i64 a0_0, .int .i64 a0_1]) (t := 30) ?hr ?_; (case hd => rfl); (case hg => rfl); (case hr => first | (go_simp; done) | (go_simp; rfl)); intro gb130 hg w8 hbox hb; have n0_ := zM (bG (by repeat (first | (with_reducible first | exact HB.out | apply bE | apply bD | apply bF) | exact HB.out)) hb); have n1_ := zM (hbox); have n2_ := zM ((by rw [hg]; exact (below_size (by repeat (first | (with_reducible first | exact HB.out | apply bE | apply bD | apply bF) | exact HB.out))) : w.heap.size ≤ gb130)); have n3_ := zM ((by rw [hg]; exact (below_size (by repeat (first | (with_reducible first | exact HB.out | apply bE | apply bD | apply bF) | exact HB.out))) : w.heap.size ≤ gb130)); clear HB; have HB := n0_; have BK130 := n1_; have GW130 := n2_; have GE130 := n3_; clear n0_ n1_ n2_ n3_; clear hb hbox hg; have hcz9_0 : w8.cell? ⟨gb130, 0, none⟩ = some (.int .i64 a0_0) := (blk_cell BK130.out 0).trans rfl; have hcz9_1 : w8.cell? ⟨gb130, 1, none⟩ = some (.int .i64 a0_1) := (blk_cell BK130.out 1).trans rfl; have hfz9_0 := blk_frozen BK130.out 0; have hfz9_1 := blk_frozen BK130.out 1) | (go_at_call 43; (with_reducible refine (spec_l1In.calls a0_0 (-1000000000000) 1000000000000 false _ A3.out).mono ?_); rintro e w' ⟨rfl, ⟨nd, rfl⟩⟩))
   go_ret
   exact ⟨by first | rfl | (simp [*, errW_none, errW_some] <;> rfl), by repeat (first | (with_reducible first | exact HB.out | apply bE | apply bD | apply bF | refine below_set ?_ GE130.out) | exact HB.out)⟩
 ·rw [if_neg c2] at H
  have c2b0 : decide (a0_0 ≤ a0_1) = false := decide_eq_false c2
  clear c2
  obtain rfl := Option.some.inj H
  simp only [zI, zJ] at H
  obtain ⟨rfl⟩ := H
  go_enter Try.func55, Try.ntmps55
  go_wp2_with (first | ((with_reducible refine gate_dst (N := 1) rfl ?_); refine box_event ?hg (N := 1) ?hd (cs := #[.int .i64 a0_0, .int .i64 a0_1]) (t := 30) ?hr ?_; (case hd => rfl); (case hg => rfl); (case hr => first | (go_simp; done) | (go_simp; rfl)); intro gb130 hg w10 hbox hb; have n0_ := zM (bG (by repeat (first | (with_reducible first | exact HB.out | apply bE | apply bD | apply bF) | exact HB.out)) hb); have n1_ := zM (hbox); have n2_ := zM ((by rw [hg]; exact (below_size (by repeat (first | (with_reducible first | exact HB.out | apply bE | apply bD | apply bF) | exact HB.out))) : w.heap.size ≤ gb130)); have n3_ := zM ((by rw [hg]; exact (below_size (by repeat (first | (with_reducible first | exact HB.out | apply bE | apply bD | apply bF) | exact HB.out))) : w.heap.size ≤ gb130)); clear HB; have HB := n0_; have BK130 := n1_; have GW130 := n2_; have GE130 := n3_; clear n0_ n1_ n2_ n3_; clear hb hbox hg; have hcz11_0 : w10.cell? ⟨gb130, 0, none⟩ = some (.int .i64 a0_0) := (blk_cell BK130.out 0).trans rfl; have hcz11_1 : w10.cell? ⟨gb130, 1, none⟩ = some (.int .i64 a0_1) := (blk_cell BK130.out 1).trans rfl; have hfz11_0 := blk_frozen BK130.out 0; have hfz11_1 := blk_frozen BK130.out 1))
  go_ret
  exact ⟨by first | rfl | (simp [*, errW_none, errW_some] <;> rfl), by repeat (first | (with_reducible first | exact HB.out | apply bE | apply bD | apply bF | refine below_set ?_ GE130.out) | exact HB.out)⟩

end Go.Proofs.Ytpnfbekbkeiahaa.XFnExactSplitMsgs
