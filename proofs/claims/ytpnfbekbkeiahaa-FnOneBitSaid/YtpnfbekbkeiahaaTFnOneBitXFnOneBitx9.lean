-- Written by a program of this claim's session (wip/xprint.py), out of the translation.
import Derived.Test.YtpnfbekbkeiahaaTFnOneBitXFnOneBitx0
import Derived.Test.YtpnfbekbkeiahaaTFnOneBitXFnOneBitx7
import Derived.Test.YtpnfbekbkeiahaaTFnOneBitXFnOneBitx8
namespace Go.Proofs.Ytpnfbekbkeiahaa.XFnOneBit
open Go.RowKit Go.Proofs.YtpnfbekbkeiahaaW.PrintWords Go.Proofs.YtpnfbekbkeiahaaW.PrintLast Go.Proofs.YtpnfbekbkeiahaaW.PrintMore
open Go.Proofs.YtpnfbekbkeiahaaW.PrintWords renaming blk_drewN → bA, blk_drew → bB, blk_alloc → bC, pw_below_drewN → bD, below_alloc → bE, below_drew1 → bF, Aside0.mk → zM, below_step → bG, blk_put → bH
open List renaming setIfInBounds_toArray → zS, set_cons_zero → z0, set_cons_succ → z1
attribute [local go_sem] max2_int min2_int max_two min_two max_three min_three max_four min_four
set_option linter.unusedVariables false
set_option linter.unusedSimpArgs false
set_option maxHeartbeats 8000000
set_option maxRecDepth 100000

/-! ### spec_l4DrawMsg: function 52 -/
def spec_l4DrawMsg.j0 : Nat → List Int → Int → Int → Int → Int → Int → Int → Int → Int → Int → ByteArray → Option (Int × Int × Int × Int × Int × Int × Int × ByteArray × Int × Int)
 | 0, _, _, _, _, _, _, _, _, _, _, _ => none
 | k + 1, x1000, x1001, x1002, x367000, x367001, x367002, x367003, x367004, x367005, x367006, x367007 => some (x367000, x367001, x367002, x367003, x367004, x367005, x367006, x367007, x1001, x1002)
def spec_l4DrawMsg.f (k : Nat) (s0_0 : List Int) (s0_1 : Int) (s0_2 : Int) : Option (Int × Int × Int × Int × Int × Int × Int × ByteArray × Int × Int) := (spec_l4DrawRight.f k s0_0 s0_1 s0_2).bind fun bt356 => ((spec_l1Below.f s0_0 bt356.2.2.2.2.2.2.2.2.1 bt356.2.2.2.2.2.2.2.2.2 25).bind fun bt367 => (if bt367.1 = 0 then ((spec_l1PickInt.f s0_0 bt367.2.1 bt367.2.2 (([0, 4, 3, 1] : List Int))).bind fun bt373 => (spec_l4DrawMsg.j0 k s0_0 bt373.2.1 bt373.2.2 bt373.1 bt356.2.1 bt356.2.2.1 bt356.2.2.2.1 bt356.2.2.2.2.1 bt356.2.2.2.2.2.1 bt356.2.2.2.2.2.2.1 bt356.2.2.2.2.2.2.2.1)) else (if bt367.1 = 1 then ((spec_l1PickInt.f s0_0 bt367.2.1 bt367.2.2 (([(-1), 8, bt356.2.2.1] : List Int))).bind fun bt379 => (spec_l4DrawMsg.j0 k s0_0 bt379.2.1 bt379.2.2 bt356.1 bt379.1 bt356.2.2.1 bt356.2.2.2.1 bt356.2.2.2.2.1 bt356.2.2.2.2.2.1 bt356.2.2.2.2.2.2.1 bt356.2.2.2.2.2.2.2.1)) else (if bt367.1 = 2 then ((spec_l1PickInt.f s0_0 bt367.2.1 bt367.2.2 (([(-1), 8, bt356.2.1] : List Int))).bind fun bt385 => (spec_l4DrawMsg.j0 k s0_0 bt385.2.1 bt385.2.2 bt356.1 bt356.2.1 bt385.1 bt356.2.2.2.1 bt356.2.2.2.2.1 bt356.2.2.2.2.2.1 bt356.2.2.2.2.2.2.1 bt356.2.2.2.2.2.2.2.1)) else (if bt367.1 = 3 then ((spec_l1PickInt.f s0_0 bt367.2.1 bt367.2.2 (([(-1), 100001000, 1] : List Int))).bind fun bt391 => (spec_l4DrawMsg.j0 k s0_0 bt391.2.1 bt391.2.2 bt356.1 bt356.2.1 bt356.2.2.1 bt391.1 bt356.2.2.2.2.1 bt356.2.2.2.2.2.1 bt356.2.2.2.2.2.2.1 bt356.2.2.2.2.2.2.2.1)) else (if bt367.1 = 4 then ((spec_l1DrawIval.f k s0_0 bt367.2.1 bt367.2.2).bind fun bt394 => (spec_l4DrawMsg.j0 k s0_0 bt394.2.2.1 bt394.2.2.2 bt356.1 bt356.2.1 bt356.2.2.1 bt356.2.2.2.1 bt394.1 bt394.2.1 bt356.2.2.2.2.2.2.1 bt356.2.2.2.2.2.2.2.1)) else (if bt367.1 = 5 then ((spec_l1PickInt.f s0_0 bt367.2.1 bt367.2.2 (([(-1), 16, 15] : List Int))).bind fun bt401 => (spec_l4DrawMsg.j0 k s0_0 bt401.2.1 bt401.2.2 bt356.1 bt356.2.1 bt356.2.2.1 bt356.2.2.2.1 bt356.2.2.2.2.1 bt356.2.2.2.2.2.1 bt401.1 bt356.2.2.2.2.2.2.2.1)) else (if bt367.1 = 6 then (spec_l4DrawMsg.j0 k s0_0 bt367.2.1 bt367.2.2 bt356.1 bt356.2.1 bt356.2.2.1 bt356.2.2.2.1 bt356.2.2.2.2.1 bt356.2.2.2.2.2.1 bt356.2.2.2.2.2.2.1 (⟨#[97, 98, 99, 100, 101, 102, 103, 104, 105, 106, 107, 108, 109, 110, 111, 112, 113, 114, 115, 116, 117, 118, 119, 120, 121]⟩ : ByteArray)) else (spec_l4DrawMsg.j0 k s0_0 bt367.2.1 bt367.2.2 bt356.1 bt356.2.1 bt356.2.2.1 bt356.2.2.2.1 bt356.2.2.2.2.1 bt356.2.2.2.2.2.1 bt356.2.2.2.2.2.2.1 bt356.2.2.2.2.2.2.2.1)))))))))
theorem spec_l4DrawMsg.mono_l : ∀ k, (∀ y0 y1 y2 y3 y4 y5 y6 y7 y8 y9 y10, LeO (spec_l4DrawMsg.j0 k y0 y1 y2 y3 y4 y5 y6 y7 y8 y9 y10) (spec_l4DrawMsg.j0 (k + 1) y0 y1 y2 y3 y4 y5 y6 y7 y8 y9 y10))
 | 0 => fun _ _ _ _ _ _ _ _ _ _ _ r h => by simp [spec_l4DrawMsg.j0] at h
 | k + 1 => by
  have ih0 := spec_l4DrawMsg.mono_l k
  ·intro y0 y1 y2 y3 y4 y5 y6 y7 y8 y9 y10
   unfold spec_l4DrawMsg.j0
   repeat' first
   | (with_reducible exact ih0 _ _ _ _ _ _ _ _ _ _ _)
   | (with_reducible exact spec_l1DrawIval.mono _ _ _ _)
   | (with_reducible exact spec_l4DrawRight.mono _ _ _ _)
   | (with_reducible exact LeO.refl _)
   | (with_reducible exact LeO.none _)
   | (with_reducible refine LeO.ite ?_ ?_)
   | (with_reducible refine LeO.bind ?_ (fun _ => ?_))
   | exact ih0 _ _ _ _ _ _ _ _ _ _ _
   | exact spec_l1DrawIval.mono _ _ _ _
   | exact spec_l4DrawRight.mono _ _ _ _
   | exact LeO.none _
   | refine LeO.ite ?_ ?_
   | refine LeO.bind ?_ (fun _ => ?_)
theorem spec_l4DrawMsg.mono : ∀ a0 a1 a2 k, LeO (spec_l4DrawMsg.f k a0 a1 a2) (spec_l4DrawMsg.f (k + 1) a0 a1 a2) := by
 intro a0 a1 a2 k
 have ih0 := spec_l4DrawMsg.mono_l k
 unfold spec_l4DrawMsg.f
 repeat' first
   | (with_reducible exact ih0 _ _ _ _ _ _ _ _ _ _ _)
   | (with_reducible exact spec_l1DrawIval.mono _ _ _ _)
   | (with_reducible exact spec_l4DrawRight.mono _ _ _ _)
   | (with_reducible exact LeO.refl _)
   | (with_reducible exact LeO.none _)
   | (with_reducible refine LeO.ite ?_ ?_)
   | (with_reducible refine LeO.bind ?_ (fun _ => ?_))
   | exact ih0 _ _ _ _ _ _ _ _ _ _ _
   | exact spec_l1DrawIval.mono _ _ _ _
   | exact spec_l4DrawRight.mono _ _ _ _
   | exact LeO.none _
   | refine LeO.ite ?_ ?_
   | refine LeO.bind ?_ (fun _ => ?_)
theorem spec_l4DrawMsg.calls (k : Nat) (g : Nat) (s0_0 : List Int) (s0_1 : Int) (s0_2 : Int) (r1 : Int) (r2 : Int) (r3 : Int) (r4 : Int) (r5 : Int) (r6 : Int) (r7 : Int) (r8 : ByteArray) (r9 : Int) (r10 : Int) (w0 w : World) (hI : IsS82 w0 w g s0_0 s0_1 s0_2) (hB : Below w0.heap.size w0 w) (h : spec_l4DrawMsg.f k s0_0 s0_1 s0_2 = some (r1, r2, r3, r4, r5, r6, r7, r8, r9, r10)) :
  Calls Try.prog 52 #[.pointer (some ⟨g, 0, none⟩)] w fun e w' => e = .returned (.agg #[.int .i64 r1, .int .i64 r2, .int .i64 r3, .int .i64 r4, .int .i64 r5, .int .i64 r6, .int .i64 r7, .string r8]) ∧ IsS82 w0 w' g s0_0 r9 r10 ∧ Below w0.heap.size w0 w' ∧ KeepBut w w' g none := by
 have hu32 := Try.underlying32
 have hu30 := Try.underlying30
 have HI0 := zM hI
 have HK := zM (KeepBut.refl w g none)
 have HL := zM hB.size
 clear hI
 have HW0 := zM hB.size
 have HB := zM hB
 clear hB
 have H : ((spec_l4DrawRight.f k s0_0 s0_1 s0_2).bind fun bt356 => ((spec_l1Below.f s0_0 bt356.2.2.2.2.2.2.2.2.1 bt356.2.2.2.2.2.2.2.2.2 25).bind fun bt367 => (if bt367.1 = 0 then ((spec_l1PickInt.f s0_0 bt367.2.1 bt367.2.2 (([0, 4, 3, 1] : List Int))).bind fun bt373 => (spec_l4DrawMsg.j0 k s0_0 bt373.2.1 bt373.2.2 bt373.1 bt356.2.1 bt356.2.2.1 bt356.2.2.2.1 bt356.2.2.2.2.1 bt356.2.2.2.2.2.1 bt356.2.2.2.2.2.2.1 bt356.2.2.2.2.2.2.2.1)) else (if bt367.1 = 1 then ((spec_l1PickInt.f s0_0 bt367.2.1 bt367.2.2 (([(-1), 8, bt356.2.2.1] : List Int))).bind fun bt379 => (spec_l4DrawMsg.j0 k s0_0 bt379.2.1 bt379.2.2 bt356.1 bt379.1 bt356.2.2.1 bt356.2.2.2.1 bt356.2.2.2.2.1 bt356.2.2.2.2.2.1 bt356.2.2.2.2.2.2.1 bt356.2.2.2.2.2.2.2.1)) else (if bt367.1 = 2 then ((spec_l1PickInt.f s0_0 bt367.2.1 bt367.2.2 (([(-1), 8, bt356.2.1] : List Int))).bind fun bt385 => (spec_l4DrawMsg.j0 k s0_0 bt385.2.1 bt385.2.2 bt356.1 bt356.2.1 bt385.1 bt356.2.2.2.1 bt356.2.2.2.2.1 bt356.2.2.2.2.2.1 bt356.2.2.2.2.2.2.1 bt356.2.2.2.2.2.2.2.1)) else (if bt367.1 = 3 then ((spec_l1PickInt.f s0_0 bt367.2.1 bt367.2.2 (([(-1), 100001000, 1] : List Int))).bind fun bt391 => (spec_l4DrawMsg.j0 k s0_0 bt391.2.1 bt391.2.2 bt356.1 bt356.2.1 bt356.2.2.1 bt391.1 bt356.2.2.2.2.1 bt356.2.2.2.2.2.1 bt356.2.2.2.2.2.2.1 bt356.2.2.2.2.2.2.2.1)) else (if bt367.1 = 4 then ((spec_l1DrawIval.f k s0_0 bt367.2.1 bt367.2.2).bind fun bt394 => (spec_l4DrawMsg.j0 k s0_0 bt394.2.2.1 bt394.2.2.2 bt356.1 bt356.2.1 bt356.2.2.1 bt356.2.2.2.1 bt394.1 bt394.2.1 bt356.2.2.2.2.2.2.1 bt356.2.2.2.2.2.2.2.1)) else (if bt367.1 = 5 then ((spec_l1PickInt.f s0_0 bt367.2.1 bt367.2.2 (([(-1), 16, 15] : List Int))).bind fun bt401 => (spec_l4DrawMsg.j0 k s0_0 bt401.2.1 bt401.2.2 bt356.1 bt356.2.1 bt356.2.2.1 bt356.2.2.2.1 bt356.2.2.2.2.1 bt356.2.2.2.2.2.1 bt401.1 bt356.2.2.2.2.2.2.2.1)) else (if bt367.1 = 6 then (spec_l4DrawMsg.j0 k s0_0 bt367.2.1 bt367.2.2 bt356.1 bt356.2.1 bt356.2.2.1 bt356.2.2.2.1 bt356.2.2.2.2.1 bt356.2.2.2.2.2.1 bt356.2.2.2.2.2.2.1 (⟨#[97, 98, 99, 100, 101, 102, 103, 104, 105, 106, 107, 108, 109, 110, 111, 112, 113, 114, 115, 116, 117, 118, 119, 120, 121]⟩ : ByteArray)) else (spec_l4DrawMsg.j0 k s0_0 bt367.2.1 bt367.2.2 bt356.1 bt356.2.1 bt356.2.2.1 bt356.2.2.2.1 bt356.2.2.2.2.1 bt356.2.2.2.2.2.1 bt356.2.2.2.2.2.2.1 bt356.2.2.2.2.2.2.2.1)))))))))) = some (r1, r2, r3, r4, r5, r6, r7, r8, r9, r10) := h
 clear h
 replace H := zO H
 obtain ⟨⟨t356, t357, t358, t359, t360, t361, t362, t363, t364, t365⟩, A20, H⟩ := H
 replace H : ((spec_l1Below.f s0_0 t364 t365 25).bind fun bt367 => (if bt367.1 = 0 then ((spec_l1PickInt.f s0_0 bt367.2.1 bt367.2.2 (([0, 4, 3, 1] : List Int))).bind fun bt373 => (spec_l4DrawMsg.j0 k s0_0 bt373.2.1 bt373.2.2 bt373.1 t357 t358 t359 t360 t361 t362 t363)) else (if bt367.1 = 1 then ((spec_l1PickInt.f s0_0 bt367.2.1 bt367.2.2 (([(-1), 8, t358] : List Int))).bind fun bt379 => (spec_l4DrawMsg.j0 k s0_0 bt379.2.1 bt379.2.2 t356 bt379.1 t358 t359 t360 t361 t362 t363)) else (if bt367.1 = 2 then ((spec_l1PickInt.f s0_0 bt367.2.1 bt367.2.2 (([(-1), 8, t357] : List Int))).bind fun bt385 => (spec_l4DrawMsg.j0 k s0_0 bt385.2.1 bt385.2.2 t356 t357 bt385.1 t359 t360 t361 t362 t363)) else (if bt367.1 = 3 then ((spec_l1PickInt.f s0_0 bt367.2.1 bt367.2.2 (([(-1), 100001000, 1] : List Int))).bind fun bt391 => (spec_l4DrawMsg.j0 k s0_0 bt391.2.1 bt391.2.2 t356 t357 t358 bt391.1 t360 t361 t362 t363)) else (if bt367.1 = 4 then ((spec_l1DrawIval.f k s0_0 bt367.2.1 bt367.2.2).bind fun bt394 => (spec_l4DrawMsg.j0 k s0_0 bt394.2.2.1 bt394.2.2.2 t356 t357 t358 t359 bt394.1 bt394.2.1 t362 t363)) else (if bt367.1 = 5 then ((spec_l1PickInt.f s0_0 bt367.2.1 bt367.2.2 (([(-1), 16, 15] : List Int))).bind fun bt401 => (spec_l4DrawMsg.j0 k s0_0 bt401.2.1 bt401.2.2 t356 t357 t358 t359 t360 t361 bt401.1 t363)) else (if bt367.1 = 6 then (spec_l4DrawMsg.j0 k s0_0 bt367.2.1 bt367.2.2 t356 t357 t358 t359 t360 t361 t362 (⟨#[97, 98, 99, 100, 101, 102, 103, 104, 105, 106, 107, 108, 109, 110, 111, 112, 113, 114, 115, 116, 117, 118, 119, 120, 121]⟩ : ByteArray)) else (spec_l4DrawMsg.j0 k s0_0 bt367.2.1 bt367.2.2 t356 t357 t358 t359 t360 t361 t362 t363))))))))) = some (r1, r2, r3, r4, r5, r6, r7, r8, r9, r10) := H
 have A2 := zM A20
 clear A20
 replace H := zO H
 obtain ⟨⟨t367, t368, t369⟩, A30, H⟩ := H
 replace H : (if t367 = 0 then ((spec_l1PickInt.f s0_0 t368 t369 (([0, 4, 3, 1] : List Int))).bind fun bt373 => (spec_l4DrawMsg.j0 k s0_0 bt373.2.1 bt373.2.2 bt373.1 t357 t358 t359 t360 t361 t362 t363)) else (if t367 = 1 then ((spec_l1PickInt.f s0_0 t368 t369 (([(-1), 8, t358] : List Int))).bind fun bt379 => (spec_l4DrawMsg.j0 k s0_0 bt379.2.1 bt379.2.2 t356 bt379.1 t358 t359 t360 t361 t362 t363)) else (if t367 = 2 then ((spec_l1PickInt.f s0_0 t368 t369 (([(-1), 8, t357] : List Int))).bind fun bt385 => (spec_l4DrawMsg.j0 k s0_0 bt385.2.1 bt385.2.2 t356 t357 bt385.1 t359 t360 t361 t362 t363)) else (if t367 = 3 then ((spec_l1PickInt.f s0_0 t368 t369 (([(-1), 100001000, 1] : List Int))).bind fun bt391 => (spec_l4DrawMsg.j0 k s0_0 bt391.2.1 bt391.2.2 t356 t357 t358 bt391.1 t360 t361 t362 t363)) else (if t367 = 4 then ((spec_l1DrawIval.f k s0_0 t368 t369).bind fun bt394 => (spec_l4DrawMsg.j0 k s0_0 bt394.2.2.1 bt394.2.2.2 t356 t357 t358 t359 bt394.1 bt394.2.1 t362 t363)) else (if t367 = 5 then ((spec_l1PickInt.f s0_0 t368 t369 (([(-1), 16, 15] : List Int))).bind fun bt401 => (spec_l4DrawMsg.j0 k s0_0 bt401.2.1 bt401.2.2 t356 t357 t358 t359 t360 t361 bt401.1 t363)) else (if t367 = 6 then (spec_l4DrawMsg.j0 k s0_0 t368 t369 t356 t357 t358 t359 t360 t361 t362 (⟨#[97, 98, 99, 100, 101, 102, 103, 104, 105, 106, 107, 108, 109, 110, 111, 112, 113, 114, 115, 116, 117, 118, 119, 120, 121]⟩ : ByteArray)) else (spec_l4DrawMsg.j0 k s0_0 t368 t369 t356 t357 t358 t359 t360 t361 t362 t363)))))))) = some (r1, r2, r3, r4, r5, r6, r7, r8, r9, r10) := H
 have A3 := zM A30
 clear A30
 have HC4 := zM H
 clear H
 go_enter Try.func52, Try.ntmps52
 go_upto_block 0 with (first | ((with_reducible refine gate_dst (N := 2) rfl ?_); refine box_event ?hg (N := 2) ?hd (cs := #[.int .i64 0, .int .i64 0, .int .i64 0, .int .i64 0, .int .i64 0, .int .i64 0, .int .i64 0, .string (⟨#[]⟩ : ByteArray)]) (t := 32) ?hr ?_; (case hd => rfl); (case hg => rfl); (case hr => first | (go_simp; done) | (go_simp; rfl)); intro gb355 hg w5 hbox hb; have n0_ := zM (IsS82.below (by repeat (first | (with_reducible first | exact HI0.out | apply IsS82.alloc | apply IsS82.drewN | apply IsS82.drew | apply IsS82.set_1 | apply IsS82.set_2) | exact HI0.out)) hb); have n1_ := zM (KeepBut.trans (by repeat (first | (with_reducible first | exact HK.out | apply KeepBut.set_ | apply keep_drewN | apply keep_drew | apply keep_alloc) | exact HK.out)) (KeepBut.of_below hb g none) (.inl rfl)); have n2_ := zM (bG (by repeat (first | (with_reducible first | exact HB.out | apply bE | apply bD | apply bF | refine below_set ?_ (IsS82.ge HI0.out)) | exact HB.out)) hb); have n3_ := zM (hbox); have n4_ := zM ((by rw [hg]; exact (keep_size (w := w) (g := g) (row := none) (by repeat (first | (with_reducible first | exact HK.out | apply KeepBut.set_ | apply keep_drewN | apply keep_drew | apply keep_alloc) | exact HK.out))) : w.heap.size ≤ gb355)); have n5_ := zM ((Nat.le_trans HW0.out (by rw [hg]; exact (keep_size (w := w) (g := g) (row := none) (by repeat (first | (with_reducible first | exact HK.out | apply KeepBut.set_ | apply keep_drewN | apply keep_drew | apply keep_alloc) | exact HK.out))) : w.heap.size ≤ gb355) : w0.heap.size ≤ gb355)); have n6_ := zM ((by rw [hg]; exact Nat.ne_of_lt (IsS82.lt (show IsS82 w0 _ g s0_0 s0_1 s0_2 from by repeat (first | (with_reducible first | exact HI0.out | apply IsS82.alloc | apply IsS82.drewN | apply IsS82.drew | apply IsS82.set_1 | apply IsS82.set_2) | exact HI0.out))) : g ≠ gb355)); have n7_ := zM ((by rw [hg]; exact Nat.ne_of_gt (IsS82.lt (show IsS82 w0 _ g s0_0 s0_1 s0_2 from by repeat (first | (with_reducible first | exact HI0.out | apply IsS82.alloc | apply IsS82.drewN | apply IsS82.drew | apply IsS82.set_1 | apply IsS82.set_2) | exact HI0.out))) : gb355 ≠ g)); clear HI0; clear HK; clear HB; have HI0 := n0_; have HK := n1_; have HB := n2_; have BK355 := n3_; have GW355 := n4_; have GE355 := n5_; have NB0_355 := n6_; have NB355_0 := n7_; clear n0_ n1_ n2_ n3_ n4_ n5_ n6_ n7_; clear hb hbox hg) | ((with_reducible refine gate_callee (f := 67) rfl ?_); refine goesL_ (some 5) rfl rfl Try.func67 (by kernel_rfl) rfl #[.pointer (some ⟨g, 0, none⟩)] rfl (by (try simp only [List.map_toArray, List.map_cons, List.map_nil]); first | done | rfl) ?_; (with_reducible refine (spec_l4DrawRight.calls k g s0_0 s0_1 s0_2 t356 t357 t358 t359 t360 t361 t362 t363 t364 t365 w0 _ ?side1 ?side2 A2.out).mono ?_); (case side1 => repeat (first | (with_reducible first | exact HI0.out | apply IsS82.alloc | apply IsS82.drewN | apply IsS82.drew | apply IsS82.set_1 | apply IsS82.set_2 | refine IsS82.far ?_ NB0_355.out _) | exact HI0.out)); (case side2 => repeat (first | (with_reducible first | exact HB.out | apply bE | apply bD | apply bF | refine below_set ?_ (IsS82.ge HI0.out) | refine below_set ?_ GE355.out) | exact HB.out)); rintro e w6 ⟨rfl, hi, hb, hk⟩; refine ⟨_, rfl, ?_⟩; have n0_ := zM (KeepBut.blk hk (g' := gb355) (o := .cells #[.int .i64 0, .int .i64 0, .int .i64 0, .int .i64 0, .int .i64 0, .int .i64 0, .int .i64 0, .string (⟨#[]⟩ : ByteArray)] 32 (0, 0)) (by (with_reducible repeat (first | refine bA ?_ _ | refine bB ?_ | refine bC ?_ _)); exact BK355.out) NB355_0.out (by simp)); have n1_ := zM (KeepBut.trans (by repeat (first | (with_reducible first | exact HK.out | apply KeepBut.set_ | apply keep_drewN | apply keep_drew | apply keep_alloc | refine keep_far ?_ GW355.out _) | exact HK.out)) hk (.inl rfl)); have n2_ := zM (hb); have n3_ := zM (hi); clear BK355; clear HK; clear HB; clear HI0; have BK355 := n0_; have HK := n1_; have HB := n2_; have HI0 := n3_; clear n0_ n1_ n2_ n3_; (try clear hb); (try clear hk); (try clear hi)) | ((with_reducible refine gate_dst (N := 3) rfl ?_); refine box_event ?hg (N := 3) ?hd (cs := #[.int .i64 0, .int .i64 0, .int .i64 0, .int .i64 0, .int .i64 0, .int .i64 0, .int .i64 0, .string (⟨#[]⟩ : ByteArray)]) (t := 32) ?hr ?_; (case hd => rfl); (case hg => rfl); (case hr => first | (go_simp; done) | (go_simp; rfl)); intro gb366 hg w7 hbox hb; have n0_ := zM (IsS82.below (by repeat (first | (with_reducible first | exact HI0.out | apply IsS82.alloc | apply IsS82.drewN | apply IsS82.drew | apply IsS82.set_1 | apply IsS82.set_2 | refine IsS82.far ?_ NB0_355.out _) | exact HI0.out)) hb); have n1_ := zM (blk_below (g := gb355) (o := .cells #[.int .i64 0, .int .i64 0, .int .i64 0, .int .i64 0, .int .i64 0, .int .i64 0, .int .i64 0, .string (⟨#[]⟩ : ByteArray)] 32 (0, 0)) (by (with_reducible repeat (first | refine bA ?_ _ | refine bB ?_ | refine bC ?_ _)); exact BK355.out) hb); have n2_ := zM (KeepBut.trans (by repeat (first | (with_reducible first | exact HK.out | apply KeepBut.set_ | apply keep_drewN | apply keep_drew | apply keep_alloc | refine keep_far ?_ GW355.out _) | exact HK.out)) (KeepBut.of_below hb g none) (.inl rfl)); have n3_ := zM (bG (by repeat (first | (with_reducible first | exact HB.out | apply bE | apply bD | apply bF | refine below_set ?_ (IsS82.ge HI0.out) | refine below_set ?_ GE355.out) | exact HB.out)) hb); have n4_ := zM (hbox); have n5_ := zM ((by rw [hg]; exact (keep_size (w := w) (g := g) (row := none) (by repeat (first | (with_reducible first | exact HK.out | apply KeepBut.set_ | apply keep_drewN | apply keep_drew | apply keep_alloc | refine keep_far ?_ GW355.out _) | exact HK.out))) : w.heap.size ≤ gb366)); have n6_ := zM ((Nat.le_trans HW0.out (by rw [hg]; exact (keep_size (w := w) (g := g) (row := none) (by repeat (first | (with_reducible first | exact HK.out | apply KeepBut.set_ | apply keep_drewN | apply keep_drew | apply keep_alloc | refine keep_far ?_ GW355.out _) | exact HK.out))) : w.heap.size ≤ gb366) : w0.heap.size ≤ gb366)); have n7_ := zM ((by rw [hg]; exact Nat.ne_of_lt (blk_lt (g := gb355) (o := .cells #[.int .i64 0, .int .i64 0, .int .i64 0, .int .i64 0, .int .i64 0, .int .i64 0, .int .i64 0, .string (⟨#[]⟩ : ByteArray)] 32 (0, 0)) (by (with_reducible repeat (first | refine bA ?_ _ | refine bB ?_ | refine bC ?_ _)); exact BK355.out)) : gb355 ≠ gb366)); have n8_ := zM ((by rw [hg]; exact Nat.ne_of_gt (blk_lt (g := gb355) (o := .cells #[.int .i64 0, .int .i64 0, .int .i64 0, .int .i64 0, .int .i64 0, .int .i64 0, .int .i64 0, .string (⟨#[]⟩ : ByteArray)] 32 (0, 0)) (by (with_reducible repeat (first | refine bA ?_ _ | refine bB ?_ | refine bC ?_ _)); exact BK355.out)) : gb366 ≠ gb355)); have n9_ := zM ((by rw [hg]; exact Nat.ne_of_lt (IsS82.lt (show IsS82 w0 _ g s0_0 t364 t365 from by repeat (first | (with_reducible first | exact HI0.out | apply IsS82.alloc | apply IsS82.drewN | apply IsS82.drew | apply IsS82.set_1 | apply IsS82.set_2 | refine IsS82.far ?_ NB0_355.out _) | exact HI0.out))) : g ≠ gb366)); have n10_ := zM ((by rw [hg]; exact Nat.ne_of_gt (IsS82.lt (show IsS82 w0 _ g s0_0 t364 t365 from by repeat (first | (with_reducible first | exact HI0.out | apply IsS82.alloc | apply IsS82.drewN | apply IsS82.drew | apply IsS82.set_1 | apply IsS82.set_2 | refine IsS82.far ?_ NB0_355.out _) | exact HI0.out))) : gb366 ≠ g)); clear HI0; clear BK355; clear HK; clear HB; have HI0 := n0_; have BK355 := n1_; have HK := n2_; have HB := n3_; have BK366 := n4_; have GW366 := n5_; have GE366 := n6_; have NB355_366 := n7_; have NB366_355 := n8_; have NB0_366 := n9_; have NB366_0 := n10_; clear n0_ n1_ n2_ n3_ n4_ n5_ n6_ n7_ n8_ n9_ n10_; clear hb hbox hg; have hnb8 := NB366_355.out; have hnc8 := NB355_366.out; have hnb9 := NB366_0.out; have hnc9 := NB0_366.out; have hcz10_0 : w7.cell? ⟨gb366, 0, none⟩ = some (.int .i64 0) := (blk_cell BK366.out 0).trans rfl; have hcz10_1 : w7.cell? ⟨gb366, 1, none⟩ = some (.int .i64 0) := (blk_cell BK366.out 1).trans rfl; have hcz10_2 : w7.cell? ⟨gb366, 2, none⟩ = some (.int .i64 0) := (blk_cell BK366.out 2).trans rfl; have hcz10_3 : w7.cell? ⟨gb366, 3, none⟩ = some (.int .i64 0) := (blk_cell BK366.out 3).trans rfl; have hcz10_4 : w7.cell? ⟨gb366, 4, none⟩ = some (.int .i64 0) := (blk_cell BK366.out 4).trans rfl; have hcz10_5 : w7.cell? ⟨gb366, 5, none⟩ = some (.int .i64 0) := (blk_cell BK366.out 5).trans rfl; have hcz10_6 : w7.cell? ⟨gb366, 6, none⟩ = some (.int .i64 0) := (blk_cell BK366.out 6).trans rfl; have hcz10_7 : w7.cell? ⟨gb366, 7, none⟩ = some (.string (⟨#[]⟩ : ByteArray)) := (blk_cell BK366.out 7).trans rfl; have hfz10_0 := blk_frozen BK366.out 0; have hfz10_1 := blk_frozen BK366.out 1; have hfz10_2 := blk_frozen BK366.out 2; have hfz10_3 := blk_frozen BK366.out 3; have hfz10_4 := blk_frozen BK366.out 4; have hfz10_5 := blk_frozen BK366.out 5; have hfz10_6 := blk_frozen BK366.out 6; have hfz10_7 := blk_frozen BK366.out 7) | ((with_reducible refine gate_callee (f := 68) rfl ?_); refine goesL_ (some 7) rfl rfl Try.func68 (by kernel_rfl) rfl #[.pointer (some ⟨g, 0, none⟩), .int .i64 25] rfl (by (try simp only [List.map_toArray, List.map_cons, List.map_nil]); first | done | rfl) ?_; (with_reducible refine (spec_l1Below.calls g s0_0 t364 t365 25 t367 t368 t369 w0 _ ?side1 ?side2 A3.out).mono ?_); (case side1 => repeat (first | (with_reducible first | exact HI0.out | apply IsS82.alloc | apply IsS82.drewN | apply IsS82.drew | apply IsS82.set_1 | apply IsS82.set_2 | refine IsS82.far ?_ NB0_355.out _ | refine IsS82.far ?_ NB0_366.out _) | exact HI0.out)); (case side2 => repeat (first | (with_reducible first | exact HB.out | apply bE | apply bD | apply bF | refine below_set ?_ (IsS82.ge HI0.out) | refine below_set ?_ GE355.out | refine below_set ?_ GE366.out) | exact HB.out)); rintro e w11 ⟨rfl, hi, hb, hk⟩; refine ⟨_, rfl, ?_⟩; have n0_ := zM (KeepBut.blk hk (g' := gb355) (o := .cells #[.int .i64 0, .int .i64 0, .int .i64 0, .int .i64 0, .int .i64 0, .int .i64 0, .int .i64 0, .string (⟨#[]⟩ : ByteArray)] 32 (0, 0)) (by (with_reducible repeat (first | refine bA ?_ _ | refine bB ?_ | refine bC ?_ _)); refine blk_far ?_ NB355_366.out _; (with_reducible repeat (first | refine bA ?_ _ | refine bB ?_ | refine bC ?_ _)); refine blk_far ?_ NB355_366.out _; (with_reducible repeat (first | refine bA ?_ _ | refine bB ?_ | refine bC ?_ _)); refine blk_far ?_ NB355_366.out _; (with_reducible repeat (first | refine bA ?_ _ | refine bB ?_ | refine bC ?_ _)); refine blk_far ?_ NB355_366.out _; (with_reducible repeat (first | refine bA ?_ _ | refine bB ?_ | refine bC ?_ _)); refine blk_far ?_ NB355_366.out _; (with_reducible repeat (first | refine bA ?_ _ | refine bB ?_ | refine bC ?_ _)); refine blk_far ?_ NB355_366.out _; (with_reducible repeat (first | refine bA ?_ _ | refine bB ?_ | refine bC ?_ _)); refine blk_far ?_ NB355_366.out _; (with_reducible repeat (first | refine bA ?_ _ | refine bB ?_ | refine bC ?_ _)); refine blk_far ?_ NB355_366.out _; (with_reducible repeat (first | refine bA ?_ _ | refine bB ?_ | refine bC ?_ _)); exact BK355.out) NB355_0.out (by simp)); have n1_ := zM (KeepBut.blk hk (g' := gb366) (o := .cells #[.int .i64 t356, .int .i64 t357, .int .i64 t358, .int .i64 t359, .int .i64 t360, .int .i64 t361, .int .i64 t362, .string t363] 32 (0, 0)) (by (with_reducible repeat (first | refine bA ?_ _ | refine bB ?_ | refine bC ?_ _)); refine bH (cs := #[.int .i64 t356, .int .i64 t357, .int .i64 t358, .int .i64 t359, .int .i64 t360, .int .i64 t361, .int .i64 t362, .string (⟨#[]⟩ : ByteArray)]) ?_ 7 _ rfl; (with_reducible repeat (first | refine bA ?_ _ | refine bB ?_ | refine bC ?_ _)); refine bH (cs := #[.int .i64 t356, .int .i64 t357, .int .i64 t358, .int .i64 t359, .int .i64 t360, .int .i64 t361, .int .i64 0, .string (⟨#[]⟩ : ByteArray)]) ?_ 6 _ rfl; (with_reducible repeat (first | refine bA ?_ _ | refine bB ?_ | refine bC ?_ _)); refine bH (cs := #[.int .i64 t356, .int .i64 t357, .int .i64 t358, .int .i64 t359, .int .i64 t360, .int .i64 0, .int .i64 0, .string (⟨#[]⟩ : ByteArray)]) ?_ 5 _ rfl; (with_reducible repeat (first | refine bA ?_ _ | refine bB ?_ | refine bC ?_ _)); refine bH (cs := #[.int .i64 t356, .int .i64 t357, .int .i64 t358, .int .i64 t359, .int .i64 0, .int .i64 0, .int .i64 0, .string (⟨#[]⟩ : ByteArray)]) ?_ 4 _ rfl; (with_reducible repeat (first | refine bA ?_ _ | refine bB ?_ | refine bC ?_ _)); refine bH (cs := #[.int .i64 t356, .int .i64 t357, .int .i64 t358, .int .i64 0, .int .i64 0, .int .i64 0, .int .i64 0, .string (⟨#[]⟩ : ByteArray)]) ?_ 3 _ rfl; (with_reducible repeat (first | refine bA ?_ _ | refine bB ?_ | refine bC ?_ _)); refine bH (cs := #[.int .i64 t356, .int .i64 t357, .int .i64 0, .int .i64 0, .int .i64 0, .int .i64 0, .int .i64 0, .string (⟨#[]⟩ : ByteArray)]) ?_ 2 _ rfl; (with_reducible repeat (first | refine bA ?_ _ | refine bB ?_ | refine bC ?_ _)); refine bH (cs := #[.int .i64 t356, .int .i64 0, .int .i64 0, .int .i64 0, .int .i64 0, .int .i64 0, .int .i64 0, .string (⟨#[]⟩ : ByteArray)]) ?_ 1 _ rfl; (with_reducible repeat (first | refine bA ?_ _ | refine bB ?_ | refine bC ?_ _)); refine bH (cs := #[.int .i64 0, .int .i64 0, .int .i64 0, .int .i64 0, .int .i64 0, .int .i64 0, .int .i64 0, .string (⟨#[]⟩ : ByteArray)]) ?_ 0 _ rfl; (with_reducible repeat (first | refine bA ?_ _ | refine bB ?_ | refine bC ?_ _)); exact BK366.out) NB366_0.out (by simp)); have n2_ := zM (KeepBut.trans (by repeat (first | (with_reducible first | exact HK.out | apply KeepBut.set_ | apply keep_drewN | apply keep_drew | apply keep_alloc | refine keep_far ?_ GW355.out _ | refine keep_far ?_ GW366.out _) | exact HK.out)) hk (.inl rfl)); have n3_ := zM (hb); have n4_ := zM (hi); clear BK355; clear BK366; clear HK; clear HB; clear HI0; have BK355 := n0_; have BK366 := n1_; have HK := n2_; have HB := n3_; have HI0 := n4_; clear n0_ n1_ n2_ n3_ n4_; (try clear hb); (try clear hk); (try clear hi)))
 (try simp only [Act.put, zS, z0, z1])
 go_cut [] (fun wc => ∃ (kq : Nat) (x1001_3 : Int) (x1002_3 : Int) (x367000_3 : Int) (x367001_3 : Int) (x367002_3 : Int) (x367003_3 : Int) (x367004_3 : Int) (x367005_3 : Int) (x367006_3 : Int) (x367007_3 : ByteArray), Aside0 (spec_l4DrawMsg.j0 kq s0_0 x1001_3 x1002_3 x367000_3 x367001_3 x367002_3 x367003_3 x367004_3 x367005_3 x367006_3 x367007_3 = some (r1, r2, r3, r4, r5, r6, r7, r8, r9, r10)) ∧ Aside0 (kq ≤ k) ∧ Aside0 (wc.heap[gb355]? = some (.cells #[.int .i64 0, .int .i64 0, .int .i64 0, .int .i64 0, .int .i64 0, .int .i64 0, .int .i64 0, .string (⟨#[]⟩ : ByteArray)] 32 (0, 0))) ∧ Aside0 (wc.heap[gb366]? = some (.cells #[.int .i64 x367000_3, .int .i64 x367001_3, .int .i64 x367002_3, .int .i64 x367003_3, .int .i64 x367004_3, .int .i64 x367005_3, .int .i64 x367006_3, .string x367007_3] 32 (0, 0))) ∧ Aside0 (IsS82 w0 wc g s0_0 x1001_3 x1002_3) ∧ Aside0 (KeepBut w wc g none) ∧ Aside0 (Below w0.heap.size w0 wc))
 case first =>
  have H := HC4.out
  clear HC4
  by_cases c12 : t367 = 0
  ·rw [if_pos c12] at H
   have c12b0 : (t367 == 0) = true := beq_iff_eq.mpr c12
   have c12b1 : (t367 != 0) = false := bne_eq_false_iff_eq.mpr c12
   clear c12
   (first | rw [c12b0] | (simp only [i64_w, i32_w]; rw [c12b0]) | skip)
   obtain ⟨y370, hy370⟩ : ∃ y_ : List Int, y_ = (([0, 4, 3, 1] : List Int)) := ⟨_, rfl⟩
   replace H : ((spec_l1PickInt.f s0_0 t368 t369 y370).bind fun bt373 => (spec_l4DrawMsg.j0 k s0_0 bt373.2.1 bt373.2.2 bt373.1 t357 t358 t359 t360 t361 t362 t363)) = some (r1, r2, r3, r4, r5, r6, r7, r8, r9, r10) := by first | (rw [hy370]; with_reducible exact H) | (have H2_ := (Option.bind_some _ _).symm.trans H; rw [hy370]; with_reducible exact H2_) | (have H2_ := (Option.bind_some _ _).symm.trans H; with_reducible exact H2_) | with_reducible exact H | (rw [hy370]; exact H) | exact H
   have Ny370 := zM hy370
   clear hy370
   replace H := zO H
   obtain ⟨⟨t373, t374, t375⟩, A130, H⟩ := H
   replace H : (spec_l4DrawMsg.j0 k s0_0 t374 t375 t373 t357 t358 t359 t360 t361 t362 t363) = some (r1, r2, r3, r4, r5, r6, r7, r8, r9, r10) := H
   have A13 := zM A130
   clear A130
   have H' := zM H
   clear H
   go_wp2_with (first | ((with_reducible refine gate_dst (N := 11) rfl ?_); refine Kd.R_lit (Kd.int .i64) _ 3 ?hg (N := 11) ?hd (xs := ([0, 4, 3, 1] : List Int)) (inner := [.int .i64 0, .int .i64 4, .int .i64 3, .int .i64 1]) (ok := fun _ => True) (okp := fun _ => True) ?hr ?hp (fun _ hk => hk) trivial (Below.refl _ _) (Nat.le_refl _) (by simp) ?_; (case hd => rfl); (case hg => rfl); (case hr => first | (go_simp; done) | (go_simp; rfl)); (case hp => exact (Reps.one (show Kd.M (Kd.int .i64) _ _ _ 0 [.int .i64 0] from rfl) (Reps.one (show Kd.M (Kd.int .i64) _ _ _ 4 [.int .i64 4] from rfl) (Reps.one (show Kd.M (Kd.int .i64) _ _ _ 3 [.int .i64 3] from rfl) (Reps.one (show Kd.M (Kd.int .i64) _ _ _ 1 [.int .i64 1] from rfl) (Reps.none _ _)))))); intro v371 w14 ho15 hb hg_ hnew_; clear hg_ hnew_; (first | rw [← Ny370.out] at ho15 | (simp only [Int.reduceToNat] at ho15; rw [← Ny370.out] at ho15)); have n0_ := zM (Kd.R_lower ho15 (keep_size (w := w) (g := g) (row := none) (by repeat (first | (with_reducible first | exact HK.out | apply KeepBut.set_ | apply keep_drewN | apply keep_drew | apply keep_alloc | refine keep_far ?_ GW355.out _ | refine keep_far ?_ GW366.out _) | exact HK.out)))); have n1_ := zM (IsS82.below (by repeat (first | (with_reducible first | exact HI0.out | apply IsS82.alloc | apply IsS82.drewN | apply IsS82.drew | apply IsS82.set_1 | apply IsS82.set_2 | refine IsS82.far ?_ NB0_355.out _ | refine IsS82.far ?_ NB0_366.out _) | exact HI0.out)) hb); have n2_ := zM (blk_below (g := gb355) (o := .cells #[.int .i64 0, .int .i64 0, .int .i64 0, .int .i64 0, .int .i64 0, .int .i64 0, .int .i64 0, .string (⟨#[]⟩ : ByteArray)] 32 (0, 0)) (by (with_reducible repeat (first | refine bA ?_ _ | refine bB ?_ | refine bC ?_ _)); exact BK355.out) hb); have n3_ := zM (blk_below (g := gb366) (o := .cells #[.int .i64 t356, .int .i64 t357, .int .i64 t358, .int .i64 t359, .int .i64 t360, .int .i64 t361, .int .i64 t362, .string t363] 32 (0, 0)) (by (with_reducible repeat (first | refine bA ?_ _ | refine bB ?_ | refine bC ?_ _)); exact BK366.out) hb); have n4_ := zM (KeepBut.trans (by repeat (first | (with_reducible first | exact HK.out | apply KeepBut.set_ | apply keep_drewN | apply keep_drew | apply keep_alloc | refine keep_far ?_ GW355.out _ | refine keep_far ?_ GW366.out _) | exact HK.out)) (KeepBut.of_below hb g none) (.inl rfl)); have n5_ := zM (bG (by repeat (first | (with_reducible first | exact HB.out | apply bE | apply bD | apply bF | refine below_set ?_ (IsS82.ge HI0.out) | refine below_set ?_ GE355.out | refine below_set ?_ GE366.out) | exact HB.out)) hb); clear HI0; clear BK355; clear BK366; clear HK; clear HB; have HO372 := n0_; have HI0 := n1_; have BK355 := n2_; have BK366 := n3_; have HK := n4_; have HB := n5_; clear n0_ n1_ n2_ n3_ n4_ n5_; clear hb ho15; obtain ⟨Ao16, co16, eo16⟩ := Kd.R_slice HO372.out; subst eo16) | ((with_reducible refine gate_callee (f := 69) rfl ?_); refine goesL_ (some 12) rfl rfl Try.func69 (by kernel_rfl) rfl #[.pointer (some ⟨g, 0, none⟩), .slice Ao16 y370.length co16] rfl (by (try simp only [List.map_toArray, List.map_cons, List.map_nil]); first | done | rfl) ?_; (with_reducible refine (spec_l1PickInt.calls g s0_0 t368 t369 _ _ y370 t373 t374 t375 w0 _ ?side1 ?side2 ?side3 ?side4 ?side5 A13.out).mono ?_); (case side1 => repeat (first | (with_reducible first | exact HI0.out | apply IsS82.alloc | apply IsS82.drewN | apply IsS82.drew | apply IsS82.set_1 | apply IsS82.set_2 | refine IsS82.far ?_ NB0_355.out _ | refine IsS82.far ?_ NB0_366.out _) | exact HI0.out)); (case side2 => repeat (first | (with_reducible first | exact HB.out | apply bE | apply bD | apply bF | refine below_set ?_ (IsS82.ge HI0.out) | refine below_set ?_ GE355.out | refine below_set ?_ GE366.out) | exact HB.out)); (case side3 => repeat (first | exact (Kd.R_reads' HO372.out).2.2 | (with_reducible refine Kd.C_alloc ?_ _) | (with_reducible refine Kd.C_drewN ?_ _) | (with_reducible refine Kd.C_drew ?_))); (case side4 => exact (Kd.R_reads' HO372.out).2.1); (case side5 => exact far_slice (IsS82.own_ne HI0.out HO372.out (by decide))); rintro e w17 ⟨rfl, hi, hb, hk⟩; refine ⟨_, rfl, ?_⟩; have n0_ := zM (KeepBut.blk hk (g' := gb355) (o := .cells #[.int .i64 0, .int .i64 0, .int .i64 0, .int .i64 0, .int .i64 0, .int .i64 0, .int .i64 0, .string (⟨#[]⟩ : ByteArray)] 32 (0, 0)) (by (with_reducible repeat (first | refine bA ?_ _ | refine bB ?_ | refine bC ?_ _)); exact BK355.out) NB355_0.out (by simp)); have n1_ := zM (KeepBut.blk hk (g' := gb366) (o := .cells #[.int .i64 t356, .int .i64 t357, .int .i64 t358, .int .i64 t359, .int .i64 t360, .int .i64 t361, .int .i64 t362, .string t363] 32 (0, 0)) (by (with_reducible repeat (first | refine bA ?_ _ | refine bB ?_ | refine bC ?_ _)); exact BK366.out) NB366_0.out (by simp)); have n2_ := zM (Kd.R_mono (Kd.R_keep (IsS82.apart (show IsS82 w0 _ g s0_0 t368 t369 from by repeat (first | (with_reducible first | exact HI0.out | apply IsS82.alloc | apply IsS82.drewN | apply IsS82.drew | apply IsS82.set_1 | apply IsS82.set_2 | refine IsS82.far ?_ NB0_355.out _ | refine IsS82.far ?_ NB0_366.out _) | exact HI0.out)) (by (with_reducible repeat (first | apply Kd.R_alloc | apply Kd.R_drewN | apply Kd.R_drew)); exact HO372.out) (by decide)) hk (fun _ h => h.2)) (fun _ h => h.1)); have n3_ := zM (KeepBut.trans (by repeat (first | (with_reducible first | exact HK.out | apply KeepBut.set_ | apply keep_drewN | apply keep_drew | apply keep_alloc | refine keep_far ?_ GW355.out _ | refine keep_far ?_ GW366.out _) | exact HK.out)) hk (.inl rfl)); have n4_ := zM (hb); have n5_ := zM (hi); clear BK355; clear BK366; clear HO372; clear HK; clear HB; clear HI0; have BK355 := n0_; have BK366 := n1_; have HO372 := n2_; have HK := n3_; have HB := n4_; have HI0 := n5_; clear n0_ n1_ n2_ n3_ n4_ n5_; (try clear hb); (try clear hk); (try clear hi); have hnb18 := NB366_355.out; have hnc18 := NB355_366.out; have hnb19 := NB366_0.out; have hnc19 := NB0_366.out; have hcz20_0 : w17.cell? ⟨gb366, 0, none⟩ = some (.int .i64 t356) := (blk_cell BK366.out 0).trans rfl; have hcz20_1 : w17.cell? ⟨gb366, 1, none⟩ = some (.int .i64 t357) := (blk_cell BK366.out 1).trans rfl; have hcz20_2 : w17.cell? ⟨gb366, 2, none⟩ = some (.int .i64 t358) := (blk_cell BK366.out 2).trans rfl; have hcz20_3 : w17.cell? ⟨gb366, 3, none⟩ = some (.int .i64 t359) := (blk_cell BK366.out 3).trans rfl; have hcz20_4 : w17.cell? ⟨gb366, 4, none⟩ = some (.int .i64 t360) := (blk_cell BK366.out 4).trans rfl; have hcz20_5 : w17.cell? ⟨gb366, 5, none⟩ = some (.int .i64 t361) := (blk_cell BK366.out 5).trans rfl; have hcz20_6 : w17.cell? ⟨gb366, 6, none⟩ = some (.int .i64 t362) := (blk_cell BK366.out 6).trans rfl; have hcz20_7 : w17.cell? ⟨gb366, 7, none⟩ = some (.string t363) := (blk_cell BK366.out 7).trans rfl; have hfz20_0 := blk_frozen BK366.out 0; have hfz20_1 := blk_frozen BK366.out 1; have hfz20_2 := blk_frozen BK366.out 2; have hfz20_3 := blk_frozen BK366.out 3; have hfz20_4 := blk_frozen BK366.out 4; have hfz20_5 := blk_frozen BK366.out 5; have hfz20_6 := blk_frozen BK366.out 6; have hfz20_7 := blk_frozen BK366.out 7))
   go_meet
   case rel => exact ⟨_, (t374), (t375), (t373), (t357), (t358), (t359), (t360), (t361), (t362), (t363), H', ⟨by first | omega | exact Nat.le_refl _⟩, ⟨by (with_reducible repeat (first | refine bA ?_ _ | refine bB ?_ | refine bC ?_ _)); refine blk_far ?_ NB355_366.out _; (with_reducible repeat (first | refine bA ?_ _ | refine bB ?_ | refine bC ?_ _)); exact BK355.out⟩, ⟨by (with_reducible repeat (first | refine bA ?_ _ | refine bB ?_ | refine bC ?_ _)); refine bH (cs := #[.int .i64 t356, .int .i64 t357, .int .i64 t358, .int .i64 t359, .int .i64 t360, .int .i64 t361, .int .i64 t362, .string t363]) ?_ 0 _ rfl; (with_reducible repeat (first | refine bA ?_ _ | refine bB ?_ | refine bC ?_ _)); exact BK366.out⟩, ⟨by repeat (first | (with_reducible first | exact HI0.out | apply IsS82.alloc | apply IsS82.drewN | apply IsS82.drew | apply IsS82.set_1 | apply IsS82.set_2 | refine IsS82.far ?_ NB0_355.out _ | refine IsS82.far ?_ NB0_366.out _) | exact HI0.out)⟩, ⟨by repeat (first | (with_reducible first | exact HK.out | apply KeepBut.set_ | apply keep_drewN | apply keep_drew | apply keep_alloc | refine keep_far ?_ GW355.out _ | refine keep_far ?_ GW366.out _) | exact HK.out)⟩, ⟨by repeat (first | (with_reducible first | exact HB.out | apply bE | apply bD | apply bF | refine below_set ?_ (IsS82.ge HI0.out) | refine below_set ?_ GE355.out | refine below_set ?_ GE366.out) | exact HB.out)⟩⟩
  ·rw [if_neg c12] at H
   have c12b0 : (t367 == 0) = false := beq_eq_false_iff_ne.mpr c12
   have c12b1 : (t367 != 0) = true := bne_iff_ne.mpr c12
   (first | rw [c12b0] | (simp only [i64_w, i32_w]; rw [c12b0]) | skip)
   by_cases c21 : t367 = 1
   ·rw [if_pos c21] at H
    have c21b0 : (t367 == 1) = true := beq_iff_eq.mpr c21
    have c21b1 : (t367 != 1) = false := bne_eq_false_iff_eq.mpr c21
    clear c21
    obtain ⟨y376, hy376⟩ : ∃ y_ : List Int, y_ = (([(-1), 8, t358] : List Int)) := ⟨_, rfl⟩
    replace H : ((spec_l1PickInt.f s0_0 t368 t369 y376).bind fun bt379 => (spec_l4DrawMsg.j0 k s0_0 bt379.2.1 bt379.2.2 t356 bt379.1 t358 t359 t360 t361 t362 t363)) = some (r1, r2, r3, r4, r5, r6, r7, r8, r9, r10) := by first | (rw [hy376]; with_reducible exact H) | (have H2_ := (Option.bind_some _ _).symm.trans H; rw [hy376]; with_reducible exact H2_) | (have H2_ := (Option.bind_some _ _).symm.trans H; with_reducible exact H2_) | with_reducible exact H | (rw [hy376]; exact H) | exact H
    have Ny376 := zM hy376
    clear hy376
    replace H := zO H
    obtain ⟨⟨t379, t380, t381⟩, A220, H⟩ := H
    replace H : (spec_l4DrawMsg.j0 k s0_0 t380 t381 t356 t379 t358 t359 t360 t361 t362 t363) = some (r1, r2, r3, r4, r5, r6, r7, r8, r9, r10) := H
    have A22 := zM A220
    clear A220
    have H' := zM H
    clear H
    have hnb23 := NB366_355.out
    have hnc23 := NB355_366.out
    have hnb24 := NB366_0.out
    have hnc24 := NB0_366.out
    have hcz25_0 : w11.cell? ⟨gb366, 0, none⟩ = some (.int .i64 t356) := (blk_cell BK366.out 0).trans rfl
    have hcz25_1 : w11.cell? ⟨gb366, 1, none⟩ = some (.int .i64 t357) := (blk_cell BK366.out 1).trans rfl
    have hcz25_2 : w11.cell? ⟨gb366, 2, none⟩ = some (.int .i64 t358) := (blk_cell BK366.out 2).trans rfl
    have hcz25_3 : w11.cell? ⟨gb366, 3, none⟩ = some (.int .i64 t359) := (blk_cell BK366.out 3).trans rfl
    have hcz25_4 : w11.cell? ⟨gb366, 4, none⟩ = some (.int .i64 t360) := (blk_cell BK366.out 4).trans rfl
    have hcz25_5 : w11.cell? ⟨gb366, 5, none⟩ = some (.int .i64 t361) := (blk_cell BK366.out 5).trans rfl
    have hcz25_6 : w11.cell? ⟨gb366, 6, none⟩ = some (.int .i64 t362) := (blk_cell BK366.out 6).trans rfl
    have hcz25_7 : w11.cell? ⟨gb366, 7, none⟩ = some (.string t363) := (blk_cell BK366.out 7).trans rfl
    have hfz25_0 := blk_frozen BK366.out 0
    have hfz25_1 := blk_frozen BK366.out 1
    have hfz25_2 := blk_frozen BK366.out 2
    have hfz25_3 := blk_frozen BK366.out 3
    have hfz25_4 := blk_frozen BK366.out 4
    have hfz25_5 := blk_frozen BK366.out 5
    have hfz25_6 := blk_frozen BK366.out 6
    have hfz25_7 := blk_frozen BK366.out 7
    go_wp2_with (first | ((with_reducible refine gate_dst (N := 19) rfl ?_); refine Kd.R_lit (Kd.int .i64) _ 3 ?hg (N := 19) ?hd (xs := ([(-1), 8, t358] : List Int)) (inner := [.int .i64 (-1), .int .i64 8, .int .i64 t358]) (ok := fun _ => True) (okp := fun _ => True) ?hr ?hp (fun _ hk => hk) trivial (Below.refl _ _) (Nat.le_refl _) (by simp) ?_; (case hd => rfl); (case hg => rfl); (case hr => first | (go_simp; done) | (go_simp; rfl)); (case hp => exact (Reps.one (show Kd.M (Kd.int .i64) _ _ _ (-1) [.int .i64 (-1)] from rfl) (Reps.one (show Kd.M (Kd.int .i64) _ _ _ 8 [.int .i64 8] from rfl) (Reps.one (show Kd.M (Kd.int .i64) _ _ _ t358 [.int .i64 t358] from rfl) (Reps.none _ _))))); intro v377 w26 ho27 hb hg_ hnew_; clear hg_ hnew_; (first | rw [← Ny376.out] at ho27 | (simp only [Int.reduceToNat] at ho27; rw [← Ny376.out] at ho27)); have n0_ := zM (Kd.R_lower ho27 (keep_size (w := w) (g := g) (row := none) (by repeat (first | (with_reducible first | exact HK.out | apply KeepBut.set_ | apply keep_drewN | apply keep_drew | apply keep_alloc | refine keep_far ?_ GW355.out _ | refine keep_far ?_ GW366.out _) | exact HK.out)))); have n1_ := zM (IsS82.below (by repeat (first | (with_reducible first | exact HI0.out | apply IsS82.alloc | apply IsS82.drewN | apply IsS82.drew | apply IsS82.set_1 | apply IsS82.set_2 | refine IsS82.far ?_ NB0_355.out _ | refine IsS82.far ?_ NB0_366.out _) | exact HI0.out)) hb); have n2_ := zM (blk_below (g := gb355) (o := .cells #[.int .i64 0, .int .i64 0, .int .i64 0, .int .i64 0, .int .i64 0, .int .i64 0, .int .i64 0, .string (⟨#[]⟩ : ByteArray)] 32 (0, 0)) (by (with_reducible repeat (first | refine bA ?_ _ | refine bB ?_ | refine bC ?_ _)); exact BK355.out) hb); have n3_ := zM (blk_below (g := gb366) (o := .cells #[.int .i64 t356, .int .i64 t357, .int .i64 t358, .int .i64 t359, .int .i64 t360, .int .i64 t361, .int .i64 t362, .string t363] 32 (0, 0)) (by (with_reducible repeat (first | refine bA ?_ _ | refine bB ?_ | refine bC ?_ _)); exact BK366.out) hb); have n4_ := zM (KeepBut.trans (by repeat (first | (with_reducible first | exact HK.out | apply KeepBut.set_ | apply keep_drewN | apply keep_drew | apply keep_alloc | refine keep_far ?_ GW355.out _ | refine keep_far ?_ GW366.out _) | exact HK.out)) (KeepBut.of_below hb g none) (.inl rfl)); have n5_ := zM (bG (by repeat (first | (with_reducible first | exact HB.out | apply bE | apply bD | apply bF | refine below_set ?_ (IsS82.ge HI0.out) | refine below_set ?_ GE355.out | refine below_set ?_ GE366.out) | exact HB.out)) hb); clear HI0; clear BK355; clear BK366; clear HK; clear HB; have HO378 := n0_; have HI0 := n1_; have BK355 := n2_; have BK366 := n3_; have HK := n4_; have HB := n5_; clear n0_ n1_ n2_ n3_ n4_ n5_; clear hb ho27; obtain ⟨Ao28, co28, eo28⟩ := Kd.R_slice HO378.out; subst eo28) | ((with_reducible refine gate_callee (f := 69) rfl ?_); refine goesL_ (some 20) rfl rfl Try.func69 (by kernel_rfl) rfl #[.pointer (some ⟨g, 0, none⟩), .slice Ao28 y376.length co28] rfl (by (try simp only [List.map_toArray, List.map_cons, List.map_nil]); first | done | rfl) ?_; (with_reducible refine (spec_l1PickInt.calls g s0_0 t368 t369 _ _ y376 t379 t380 t381 w0 _ ?side1 ?side2 ?side3 ?side4 ?side5 A22.out).mono ?_); (case side1 => repeat (first | (with_reducible first | exact HI0.out | apply IsS82.alloc | apply IsS82.drewN | apply IsS82.drew | apply IsS82.set_1 | apply IsS82.set_2 | refine IsS82.far ?_ NB0_355.out _ | refine IsS82.far ?_ NB0_366.out _) | exact HI0.out)); (case side2 => repeat (first | (with_reducible first | exact HB.out | apply bE | apply bD | apply bF | refine below_set ?_ (IsS82.ge HI0.out) | refine below_set ?_ GE355.out | refine below_set ?_ GE366.out) | exact HB.out)); (case side3 => repeat (first | exact (Kd.R_reads' HO378.out).2.2 | (with_reducible refine Kd.C_alloc ?_ _) | (with_reducible refine Kd.C_drewN ?_ _) | (with_reducible refine Kd.C_drew ?_))); (case side4 => exact (Kd.R_reads' HO378.out).2.1); (case side5 => exact far_slice (IsS82.own_ne HI0.out HO378.out (by decide))); rintro e w29 ⟨rfl, hi, hb, hk⟩; refine ⟨_, rfl, ?_⟩; have n0_ := zM (KeepBut.blk hk (g' := gb355) (o := .cells #[.int .i64 0, .int .i64 0, .int .i64 0, .int .i64 0, .int .i64 0, .int .i64 0, .int .i64 0, .string (⟨#[]⟩ : ByteArray)] 32 (0, 0)) (by (with_reducible repeat (first | refine bA ?_ _ | refine bB ?_ | refine bC ?_ _)); exact BK355.out) NB355_0.out (by simp)); have n1_ := zM (KeepBut.blk hk (g' := gb366) (o := .cells #[.int .i64 t356, .int .i64 t357, .int .i64 t358, .int .i64 t359, .int .i64 t360, .int .i64 t361, .int .i64 t362, .string t363] 32 (0, 0)) (by (with_reducible repeat (first | refine bA ?_ _ | refine bB ?_ | refine bC ?_ _)); exact BK366.out) NB366_0.out (by simp)); have n2_ := zM (Kd.R_mono (Kd.R_keep (IsS82.apart (show IsS82 w0 _ g s0_0 t368 t369 from by repeat (first | (with_reducible first | exact HI0.out | apply IsS82.alloc | apply IsS82.drewN | apply IsS82.drew | apply IsS82.set_1 | apply IsS82.set_2 | refine IsS82.far ?_ NB0_355.out _ | refine IsS82.far ?_ NB0_366.out _) | exact HI0.out)) (by (with_reducible repeat (first | apply Kd.R_alloc | apply Kd.R_drewN | apply Kd.R_drew)); exact HO378.out) (by decide)) hk (fun _ h => h.2)) (fun _ h => h.1)); have n3_ := zM (KeepBut.trans (by repeat (first | (with_reducible first | exact HK.out | apply KeepBut.set_ | apply keep_drewN | apply keep_drew | apply keep_alloc | refine keep_far ?_ GW355.out _ | refine keep_far ?_ GW366.out _) | exact HK.out)) hk (.inl rfl)); have n4_ := zM (hb); have n5_ := zM (hi); clear BK355; clear BK366; clear HO378; clear HK; clear HB; clear HI0; have BK355 := n0_; have BK366 := n1_; have HO378 := n2_; have HK := n3_; have HB := n4_; have HI0 := n5_; clear n0_ n1_ n2_ n3_ n4_ n5_; (try clear hb); (try clear hk); (try clear hi); have hcz30_0 : w29.cell? ⟨gb366, 0, none⟩ = some (.int .i64 t356) := (blk_cell BK366.out 0).trans rfl; have hcz30_1 : w29.cell? ⟨gb366, 1, none⟩ = some (.int .i64 t357) := (blk_cell BK366.out 1).trans rfl; have hcz30_2 : w29.cell? ⟨gb366, 2, none⟩ = some (.int .i64 t358) := (blk_cell BK366.out 2).trans rfl; have hcz30_3 : w29.cell? ⟨gb366, 3, none⟩ = some (.int .i64 t359) := (blk_cell BK366.out 3).trans rfl; have hcz30_4 : w29.cell? ⟨gb366, 4, none⟩ = some (.int .i64 t360) := (blk_cell BK366.out 4).trans rfl; have hcz30_5 : w29.cell? ⟨gb366, 5, none⟩ = some (.int .i64 t361) := (blk_cell BK366.out 5).trans rfl; have hcz30_6 : w29.cell? ⟨gb366, 6, none⟩ = some (.int .i64 t362) := (blk_cell BK366.out 6).trans rfl; have hcz30_7 : w29.cell? ⟨gb366, 7, none⟩ = some (.string t363) := (blk_cell BK366.out 7).trans rfl; have hfz30_0 := blk_frozen BK366.out 0; have hfz30_1 := blk_frozen BK366.out 1; have hfz30_2 := blk_frozen BK366.out 2; have hfz30_3 := blk_frozen BK366.out 3; have hfz30_4 := blk_frozen BK366.out 4; have hfz30_5 := blk_frozen BK366.out 5; have hfz30_6 := blk_frozen BK366.out 6; have hfz30_7 := blk_frozen BK366.out 7))
    go_meet
    case rel => exact ⟨_, (t380), (t381), (t356), (t379), (t358), (t359), (t360), (t361), (t362), (t363), H', ⟨by first | omega | exact Nat.le_refl _⟩, ⟨by (with_reducible repeat (first | refine bA ?_ _ | refine bB ?_ | refine bC ?_ _)); refine blk_far ?_ NB355_366.out _; (with_reducible repeat (first | refine bA ?_ _ | refine bB ?_ | refine bC ?_ _)); exact BK355.out⟩, ⟨by (with_reducible repeat (first | refine bA ?_ _ | refine bB ?_ | refine bC ?_ _)); refine bH (cs := #[.int .i64 t356, .int .i64 t357, .int .i64 t358, .int .i64 t359, .int .i64 t360, .int .i64 t361, .int .i64 t362, .string t363]) ?_ 1 _ rfl; (with_reducible repeat (first | refine bA ?_ _ | refine bB ?_ | refine bC ?_ _)); exact BK366.out⟩, ⟨by repeat (first | (with_reducible first | exact HI0.out | apply IsS82.alloc | apply IsS82.drewN | apply IsS82.drew | apply IsS82.set_1 | apply IsS82.set_2 | refine IsS82.far ?_ NB0_355.out _ | refine IsS82.far ?_ NB0_366.out _) | exact HI0.out)⟩, ⟨by repeat (first | (with_reducible first | exact HK.out | apply KeepBut.set_ | apply keep_drewN | apply keep_drew | apply keep_alloc | refine keep_far ?_ GW355.out _ | refine keep_far ?_ GW366.out _) | exact HK.out)⟩, ⟨by repeat (first | (with_reducible first | exact HB.out | apply bE | apply bD | apply bF | refine below_set ?_ (IsS82.ge HI0.out) | refine below_set ?_ GE355.out | refine below_set ?_ GE366.out) | exact HB.out)⟩⟩
   ·rw [if_neg c21] at H
    have c21b0 : (t367 == 1) = false := beq_eq_false_iff_ne.mpr c21
    have c21b1 : (t367 != 1) = true := bne_iff_ne.mpr c21
    by_cases c31 : t367 = 2
    ·rw [if_pos c31] at H
     have c31b0 : (t367 == 2) = true := beq_iff_eq.mpr c31
     have c31b1 : (t367 != 2) = false := bne_eq_false_iff_eq.mpr c31
     clear c31
     obtain ⟨y382, hy382⟩ : ∃ y_ : List Int, y_ = (([(-1), 8, t357] : List Int)) := ⟨_, rfl⟩
     replace H : ((spec_l1PickInt.f s0_0 t368 t369 y382).bind fun bt385 => (spec_l4DrawMsg.j0 k s0_0 bt385.2.1 bt385.2.2 t356 t357 bt385.1 t359 t360 t361 t362 t363)) = some (r1, r2, r3, r4, r5, r6, r7, r8, r9, r10) := by first | (rw [hy382]; with_reducible exact H) | (have H2_ := (Option.bind_some _ _).symm.trans H; rw [hy382]; with_reducible exact H2_) | (have H2_ := (Option.bind_some _ _).symm.trans H; with_reducible exact H2_) | with_reducible exact H | (rw [hy382]; exact H) | exact H
     have Ny382 := zM hy382
     clear hy382
     replace H := zO H
     obtain ⟨⟨t385, t386, t387⟩, A320, H⟩ := H
     replace H : (spec_l4DrawMsg.j0 k s0_0 t386 t387 t356 t357 t385 t359 t360 t361 t362 t363) = some (r1, r2, r3, r4, r5, r6, r7, r8, r9, r10) := H
     have A32 := zM A320
     clear A320
     have H' := zM H
     clear H
     have hnb33 := NB366_355.out
     have hnc33 := NB355_366.out
     have hnb34 := NB366_0.out
     have hnc34 := NB0_366.out
     have hcz35_0 : w11.cell? ⟨gb366, 0, none⟩ = some (.int .i64 t356) := (blk_cell BK366.out 0).trans rfl
     have hcz35_1 : w11.cell? ⟨gb366, 1, none⟩ = some (.int .i64 t357) := (blk_cell BK366.out 1).trans rfl
     have hcz35_2 : w11.cell? ⟨gb366, 2, none⟩ = some (.int .i64 t358) := (blk_cell BK366.out 2).trans rfl
     have hcz35_3 : w11.cell? ⟨gb366, 3, none⟩ = some (.int .i64 t359) := (blk_cell BK366.out 3).trans rfl
     have hcz35_4 : w11.cell? ⟨gb366, 4, none⟩ = some (.int .i64 t360) := (blk_cell BK366.out 4).trans rfl
     have hcz35_5 : w11.cell? ⟨gb366, 5, none⟩ = some (.int .i64 t361) := (blk_cell BK366.out 5).trans rfl
     have hcz35_6 : w11.cell? ⟨gb366, 6, none⟩ = some (.int .i64 t362) := (blk_cell BK366.out 6).trans rfl
     have hcz35_7 : w11.cell? ⟨gb366, 7, none⟩ = some (.string t363) := (blk_cell BK366.out 7).trans rfl
     have hfz35_0 := blk_frozen BK366.out 0
     have hfz35_1 := blk_frozen BK366.out 1
     have hfz35_2 := blk_frozen BK366.out 2
     have hfz35_3 := blk_frozen BK366.out 3
     have hfz35_4 := blk_frozen BK366.out 4
     have hfz35_5 := blk_frozen BK366.out 5
     have hfz35_6 := blk_frozen BK366.out 6
     have hfz35_7 := blk_frozen BK366.out 7
     go_wp2_with (first | ((with_reducible refine gate_dst (N := 27) rfl ?_); refine Kd.R_lit (Kd.int .i64) _ 3 ?hg (N := 27) ?hd (xs := ([(-1), 8, t357] : List Int)) (inner := [.int .i64 (-1), .int .i64 8, .int .i64 t357]) (ok := fun _ => True) (okp := fun _ => True) ?hr ?hp (fun _ hk => hk) trivial (Below.refl _ _) (Nat.le_refl _) (by simp) ?_; (case hd => rfl); (case hg => rfl); (case hr => first | (go_simp; done) | (go_simp; rfl)); (case hp => exact (Reps.one (show Kd.M (Kd.int .i64) _ _ _ (-1) [.int .i64 (-1)] from rfl) (Reps.one (show Kd.M (Kd.int .i64) _ _ _ 8 [.int .i64 8] from rfl) (Reps.one (show Kd.M (Kd.int .i64) _ _ _ t357 [.int .i64 t357] from rfl) (Reps.none _ _))))); intro v383 w36 ho37 hb hg_ hnew_; clear hg_ hnew_; (first | rw [← Ny382.out] at ho37 | (simp only [Int.reduceToNat] at ho37; rw [← Ny382.out] at ho37)); have n0_ := zM (Kd.R_lower ho37 (keep_size (w := w) (g := g) (row := none) (by repeat (first | (with_reducible first | exact HK.out | apply KeepBut.set_ | apply keep_drewN | apply keep_drew | apply keep_alloc | refine keep_far ?_ GW355.out _ | refine keep_far ?_ GW366.out _) | exact HK.out)))); have n1_ := zM (IsS82.below (by repeat (first | (with_reducible first | exact HI0.out | apply IsS82.alloc | apply IsS82.drewN | apply IsS82.drew | apply IsS82.set_1 | apply IsS82.set_2 | refine IsS82.far ?_ NB0_355.out _ | refine IsS82.far ?_ NB0_366.out _) | exact HI0.out)) hb); have n2_ := zM (blk_below (g := gb355) (o := .cells #[.int .i64 0, .int .i64 0, .int .i64 0, .int .i64 0, .int .i64 0, .int .i64 0, .int .i64 0, .string (⟨#[]⟩ : ByteArray)] 32 (0, 0)) (by (with_reducible repeat (first | refine bA ?_ _ | refine bB ?_ | refine bC ?_ _)); exact BK355.out) hb); have n3_ := zM (blk_below (g := gb366) (o := .cells #[.int .i64 t356, .int .i64 t357, .int .i64 t358, .int .i64 t359, .int .i64 t360, .int .i64 t361, .int .i64 t362, .string t363] 32 (0, 0)) (by (with_reducible repeat (first | refine bA ?_ _ | refine bB ?_ | refine bC ?_ _)); exact BK366.out) hb); have n4_ := zM (KeepBut.trans (by repeat (first | (with_reducible first | exact HK.out | apply KeepBut.set_ | apply keep_drewN | apply keep_drew | apply keep_alloc | refine keep_far ?_ GW355.out _ | refine keep_far ?_ GW366.out _) | exact HK.out)) (KeepBut.of_below hb g none) (.inl rfl)); have n5_ := zM (bG (by repeat (first | (with_reducible first | exact HB.out | apply bE | apply bD | apply bF | refine below_set ?_ (IsS82.ge HI0.out) | refine below_set ?_ GE355.out | refine below_set ?_ GE366.out) | exact HB.out)) hb); clear HI0; clear BK355; clear BK366; clear HK; clear HB; have HO384 := n0_; have HI0 := n1_; have BK355 := n2_; have BK366 := n3_; have HK := n4_; have HB := n5_; clear n0_ n1_ n2_ n3_ n4_ n5_; clear hb ho37; obtain ⟨Ao38, co38, eo38⟩ := Kd.R_slice HO384.out; subst eo38) | ((with_reducible refine gate_callee (f := 69) rfl ?_); refine goesL_ (some 28) rfl rfl Try.func69 (by kernel_rfl) rfl #[.pointer (some ⟨g, 0, none⟩), .slice Ao38 y382.length co38] rfl (by (try simp only [List.map_toArray, List.map_cons, List.map_nil]); first | done | rfl) ?_; (with_reducible refine (spec_l1PickInt.calls g s0_0 t368 t369 _ _ y382 t385 t386 t387 w0 _ ?side1 ?side2 ?side3 ?side4 ?side5 A32.out).mono ?_); (case side1 => repeat (first | (with_reducible first | exact HI0.out | apply IsS82.alloc | apply IsS82.drewN | apply IsS82.drew | apply IsS82.set_1 | apply IsS82.set_2 | refine IsS82.far ?_ NB0_355.out _ | refine IsS82.far ?_ NB0_366.out _) | exact HI0.out)); (case side2 => repeat (first | (with_reducible first | exact HB.out | apply bE | apply bD | apply bF | refine below_set ?_ (IsS82.ge HI0.out) | refine below_set ?_ GE355.out | refine below_set ?_ GE366.out) | exact HB.out)); (case side3 => repeat (first | exact (Kd.R_reads' HO384.out).2.2 | (with_reducible refine Kd.C_alloc ?_ _) | (with_reducible refine Kd.C_drewN ?_ _) | (with_reducible refine Kd.C_drew ?_))); (case side4 => exact (Kd.R_reads' HO384.out).2.1); (case side5 => exact far_slice (IsS82.own_ne HI0.out HO384.out (by decide))); rintro e w39 ⟨rfl, hi, hb, hk⟩; refine ⟨_, rfl, ?_⟩; have n0_ := zM (KeepBut.blk hk (g' := gb355) (o := .cells #[.int .i64 0, .int .i64 0, .int .i64 0, .int .i64 0, .int .i64 0, .int .i64 0, .int .i64 0, .string (⟨#[]⟩ : ByteArray)] 32 (0, 0)) (by (with_reducible repeat (first | refine bA ?_ _ | refine bB ?_ | refine bC ?_ _)); exact BK355.out) NB355_0.out (by simp)); have n1_ := zM (KeepBut.blk hk (g' := gb366) (o := .cells #[.int .i64 t356, .int .i64 t357, .int .i64 t358, .int .i64 t359, .int .i64 t360, .int .i64 t361, .int .i64 t362, .string t363] 32 (0, 0)) (by (with_reducible repeat (first | refine bA ?_ _ | refine bB ?_ | refine bC ?_ _)); exact BK366.out) NB366_0.out (by simp)); have n2_ := zM (Kd.R_mono (Kd.R_keep (IsS82.apart (show IsS82 w0 _ g s0_0 t368 t369 from by repeat (first | (with_reducible first | exact HI0.out | apply IsS82.alloc | apply IsS82.drewN | apply IsS82.drew | apply IsS82.set_1 | apply IsS82.set_2 | refine IsS82.far ?_ NB0_355.out _ | refine IsS82.far ?_ NB0_366.out _) | exact HI0.out)) (by (with_reducible repeat (first | apply Kd.R_alloc | apply Kd.R_drewN | apply Kd.R_drew)); exact HO384.out) (by decide)) hk (fun _ h => h.2)) (fun _ h => h.1)); have n3_ := zM (KeepBut.trans (by repeat (first | (with_reducible first | exact HK.out | apply KeepBut.set_ | apply keep_drewN | apply keep_drew | apply keep_alloc | refine keep_far ?_ GW355.out _ | refine keep_far ?_ GW366.out _) | exact HK.out)) hk (.inl rfl)); have n4_ := zM (hb); have n5_ := zM (hi); clear BK355; clear BK366; clear HO384; clear HK; clear HB; clear HI0; have BK355 := n0_; have BK366 := n1_; have HO384 := n2_; have HK := n3_; have HB := n4_; have HI0 := n5_; clear n0_ n1_ n2_ n3_ n4_ n5_; (try clear hb); (try clear hk); (try clear hi); have hcz40_0 : w39.cell? ⟨gb366, 0, none⟩ = some (.int .i64 t356) := (blk_cell BK366.out 0).trans rfl; have hcz40_1 : w39.cell? ⟨gb366, 1, none⟩ = some (.int .i64 t357) := (blk_cell BK366.out 1).trans rfl; have hcz40_2 : w39.cell? ⟨gb366, 2, none⟩ = some (.int .i64 t358) := (blk_cell BK366.out 2).trans rfl; have hcz40_3 : w39.cell? ⟨gb366, 3, none⟩ = some (.int .i64 t359) := (blk_cell BK366.out 3).trans rfl; have hcz40_4 : w39.cell? ⟨gb366, 4, none⟩ = some (.int .i64 t360) := (blk_cell BK366.out 4).trans rfl; have hcz40_5 : w39.cell? ⟨gb366, 5, none⟩ = some (.int .i64 t361) := (blk_cell BK366.out 5).trans rfl; have hcz40_6 : w39.cell? ⟨gb366, 6, none⟩ = some (.int .i64 t362) := (blk_cell BK366.out 6).trans rfl; have hcz40_7 : w39.cell? ⟨gb366, 7, none⟩ = some (.string t363) := (blk_cell BK366.out 7).trans rfl; have hfz40_0 := blk_frozen BK366.out 0; have hfz40_1 := blk_frozen BK366.out 1; have hfz40_2 := blk_frozen BK366.out 2; have hfz40_3 := blk_frozen BK366.out 3; have hfz40_4 := blk_frozen BK366.out 4; have hfz40_5 := blk_frozen BK366.out 5; have hfz40_6 := blk_frozen BK366.out 6; have hfz40_7 := blk_frozen BK366.out 7))
     go_meet
     case rel => exact ⟨_, (t386), (t387), (t356), (t357), (t385), (t359), (t360), (t361), (t362), (t363), H', ⟨by first | omega | exact Nat.le_refl _⟩, ⟨by (with_reducible repeat (first | refine bA ?_ _ | refine bB ?_ | refine bC ?_ _)); refine blk_far ?_ NB355_366.out _; (with_reducible repeat (first | refine bA ?_ _ | refine bB ?_ | refine bC ?_ _)); exact BK355.out⟩, ⟨by (with_reducible repeat (first | refine bA ?_ _ | refine bB ?_ | refine bC ?_ _)); refine bH (cs := #[.int .i64 t356, .int .i64 t357, .int .i64 t358, .int .i64 t359, .int .i64 t360, .int .i64 t361, .int .i64 t362, .string t363]) ?_ 2 _ rfl; (with_reducible repeat (first | refine bA ?_ _ | refine bB ?_ | refine bC ?_ _)); exact BK366.out⟩, ⟨by repeat (first | (with_reducible first | exact HI0.out | apply IsS82.alloc | apply IsS82.drewN | apply IsS82.drew | apply IsS82.set_1 | apply IsS82.set_2 | refine IsS82.far ?_ NB0_355.out _ | refine IsS82.far ?_ NB0_366.out _) | exact HI0.out)⟩, ⟨by repeat (first | (with_reducible first | exact HK.out | apply KeepBut.set_ | apply keep_drewN | apply keep_drew | apply keep_alloc | refine keep_far ?_ GW355.out _ | refine keep_far ?_ GW366.out _) | exact HK.out)⟩, ⟨by repeat (first | (with_reducible first | exact HB.out | apply bE | apply bD | apply bF | refine below_set ?_ (IsS82.ge HI0.out) | refine below_set ?_ GE355.out | refine below_set ?_ GE366.out) | exact HB.out)⟩⟩
    ·rw [if_neg c31] at H
     have c31b0 : (t367 == 2) = false := beq_eq_false_iff_ne.mpr c31
     have c31b1 : (t367 != 2) = true := bne_iff_ne.mpr c31
     by_cases c41 : t367 = 3
     ·rw [if_pos c41] at H
      have c41b0 : (t367 == 3) = true := beq_iff_eq.mpr c41
      have c41b1 : (t367 != 3) = false := bne_eq_false_iff_eq.mpr c41
      clear c41
      obtain ⟨y388, hy388⟩ : ∃ y_ : List Int, y_ = (([(-1), 100001000, 1] : List Int)) := ⟨_, rfl⟩
      replace H : ((spec_l1PickInt.f s0_0 t368 t369 y388).bind fun bt391 => (spec_l4DrawMsg.j0 k s0_0 bt391.2.1 bt391.2.2 t356 t357 t358 bt391.1 t360 t361 t362 t363)) = some (r1, r2, r3, r4, r5, r6, r7, r8, r9, r10) := by first | (rw [hy388]; with_reducible exact H) | (have H2_ := (Option.bind_some _ _).symm.trans H; rw [hy388]; with_reducible exact H2_) | (have H2_ := (Option.bind_some _ _).symm.trans H; with_reducible exact H2_) | with_reducible exact H | (rw [hy388]; exact H) | exact H
      have Ny388 := zM hy388
      clear hy388
      replace H := zO H
      obtain ⟨⟨t391, t392, t393⟩, A420, H⟩ := H
      replace H : (spec_l4DrawMsg.j0 k s0_0 t392 t393 t356 t357 t358 t391 t360 t361 t362 t363) = some (r1, r2, r3, r4, r5, r6, r7, r8, r9, r10) := H
      have A42 := zM A420
      clear A420
      have H' := zM H
      clear H
      go_wp2_with (first | ((with_reducible refine gate_dst (N := 33) rfl ?_); refine Kd.R_lit (Kd.int .i64) _ 3 ?hg (N := 33) ?hd (xs := ([(-1), 100001000, 1] : List Int)) (inner := [.int .i64 (-1), .int .i64 100001000, .int .i64 1]) (ok := fun _ => True) (okp := fun _ => True) ?hr ?hp (fun _ hk => hk) trivial (Below.refl _ _) (Nat.le_refl _) (by simp) ?_; (case hd => rfl); (case hg => rfl); (case hr => first | (go_simp; done) | (go_simp; rfl)); (case hp => exact (Reps.one (show Kd.M (Kd.int .i64) _ _ _ (-1) [.int .i64 (-1)] from rfl) (Reps.one (show Kd.M (Kd.int .i64) _ _ _ 100001000 [.int .i64 100001000] from rfl) (Reps.one (show Kd.M (Kd.int .i64) _ _ _ 1 [.int .i64 1] from rfl) (Reps.none _ _))))); intro v389 w43 ho44 hb hg_ hnew_; clear hg_ hnew_; (first | rw [← Ny388.out] at ho44 | (simp only [Int.reduceToNat] at ho44; rw [← Ny388.out] at ho44)); have n0_ := zM (Kd.R_lower ho44 (keep_size (w := w) (g := g) (row := none) (by repeat (first | (with_reducible first | exact HK.out | apply KeepBut.set_ | apply keep_drewN | apply keep_drew | apply keep_alloc | refine keep_far ?_ GW355.out _ | refine keep_far ?_ GW366.out _) | exact HK.out)))); have n1_ := zM (IsS82.below (by repeat (first | (with_reducible first | exact HI0.out | apply IsS82.alloc | apply IsS82.drewN | apply IsS82.drew | apply IsS82.set_1 | apply IsS82.set_2 | refine IsS82.far ?_ NB0_355.out _ | refine IsS82.far ?_ NB0_366.out _) | exact HI0.out)) hb); have n2_ := zM (blk_below (g := gb355) (o := .cells #[.int .i64 0, .int .i64 0, .int .i64 0, .int .i64 0, .int .i64 0, .int .i64 0, .int .i64 0, .string (⟨#[]⟩ : ByteArray)] 32 (0, 0)) (by (with_reducible repeat (first | refine bA ?_ _ | refine bB ?_ | refine bC ?_ _)); exact BK355.out) hb); have n3_ := zM (blk_below (g := gb366) (o := .cells #[.int .i64 t356, .int .i64 t357, .int .i64 t358, .int .i64 t359, .int .i64 t360, .int .i64 t361, .int .i64 t362, .string t363] 32 (0, 0)) (by (with_reducible repeat (first | refine bA ?_ _ | refine bB ?_ | refine bC ?_ _)); exact BK366.out) hb); have n4_ := zM (KeepBut.trans (by repeat (first | (with_reducible first | exact HK.out | apply KeepBut.set_ | apply keep_drewN | apply keep_drew | apply keep_alloc | refine keep_far ?_ GW355.out _ | refine keep_far ?_ GW366.out _) | exact HK.out)) (KeepBut.of_below hb g none) (.inl rfl)); have n5_ := zM (bG (by repeat (first | (with_reducible first | exact HB.out | apply bE | apply bD | apply bF | refine below_set ?_ (IsS82.ge HI0.out) | refine below_set ?_ GE355.out | refine below_set ?_ GE366.out) | exact HB.out)) hb); clear HI0; clear BK355; clear BK366; clear HK; clear HB; have HO390 := n0_; have HI0 := n1_; have BK355 := n2_; have BK366 := n3_; have HK := n4_; have HB := n5_; clear n0_ n1_ n2_ n3_ n4_ n5_; clear hb ho44; obtain ⟨Ao45, co45, eo45⟩ := Kd.R_slice HO390.out; subst eo45) | ((with_reducible refine gate_callee (f := 69) rfl ?_); refine goesL_ (some 34) rfl rfl Try.func69 (by kernel_rfl) rfl #[.pointer (some ⟨g, 0, none⟩), .slice Ao45 y388.length co45] rfl (by (try simp only [List.map_toArray, List.map_cons, List.map_nil]); first | done | rfl) ?_; (with_reducible refine (spec_l1PickInt.calls g s0_0 t368 t369 _ _ y388 t391 t392 t393 w0 _ ?side1 ?side2 ?side3 ?side4 ?side5 A42.out).mono ?_); (case side1 => repeat (first | (with_reducible first | exact HI0.out | apply IsS82.alloc | apply IsS82.drewN | apply IsS82.drew | apply IsS82.set_1 | apply IsS82.set_2 | refine IsS82.far ?_ NB0_355.out _ | refine IsS82.far ?_ NB0_366.out _) | exact HI0.out)); (case side2 => repeat (first | (with_reducible first | exact HB.out | apply bE | apply bD | apply bF | refine below_set ?_ (IsS82.ge HI0.out) | refine below_set ?_ GE355.out | refine below_set ?_ GE366.out) | exact HB.out)); (case side3 => repeat (first | exact (Kd.R_reads' HO390.out).2.2 | (with_reducible refine Kd.C_alloc ?_ _) | (with_reducible refine Kd.C_drewN ?_ _) | (with_reducible refine Kd.C_drew ?_))); (case side4 => exact (Kd.R_reads' HO390.out).2.1); (case side5 => exact far_slice (IsS82.own_ne HI0.out HO390.out (by decide))); rintro e w46 ⟨rfl, hi, hb, hk⟩; refine ⟨_, rfl, ?_⟩; have n0_ := zM (KeepBut.blk hk (g' := gb355) (o := .cells #[.int .i64 0, .int .i64 0, .int .i64 0, .int .i64 0, .int .i64 0, .int .i64 0, .int .i64 0, .string (⟨#[]⟩ : ByteArray)] 32 (0, 0)) (by (with_reducible repeat (first | refine bA ?_ _ | refine bB ?_ | refine bC ?_ _)); exact BK355.out) NB355_0.out (by simp)); have n1_ := zM (KeepBut.blk hk (g' := gb366) (o := .cells #[.int .i64 t356, .int .i64 t357, .int .i64 t358, .int .i64 t359, .int .i64 t360, .int .i64 t361, .int .i64 t362, .string t363] 32 (0, 0)) (by (with_reducible repeat (first | refine bA ?_ _ | refine bB ?_ | refine bC ?_ _)); exact BK366.out) NB366_0.out (by simp)); have n2_ := zM (Kd.R_mono (Kd.R_keep (IsS82.apart (show IsS82 w0 _ g s0_0 t368 t369 from by repeat (first | (with_reducible first | exact HI0.out | apply IsS82.alloc | apply IsS82.drewN | apply IsS82.drew | apply IsS82.set_1 | apply IsS82.set_2 | refine IsS82.far ?_ NB0_355.out _ | refine IsS82.far ?_ NB0_366.out _) | exact HI0.out)) (by (with_reducible repeat (first | apply Kd.R_alloc | apply Kd.R_drewN | apply Kd.R_drew)); exact HO390.out) (by decide)) hk (fun _ h => h.2)) (fun _ h => h.1)); have n3_ := zM (KeepBut.trans (by repeat (first | (with_reducible first | exact HK.out | apply KeepBut.set_ | apply keep_drewN | apply keep_drew | apply keep_alloc | refine keep_far ?_ GW355.out _ | refine keep_far ?_ GW366.out _) | exact HK.out)) hk (.inl rfl)); have n4_ := zM (hb); have n5_ := zM (hi); clear BK355; clear BK366; clear HO390; clear HK; clear HB; clear HI0; have BK355 := n0_; have BK366 := n1_; have HO390 := n2_; have HK := n3_; have HB := n4_; have HI0 := n5_; clear n0_ n1_ n2_ n3_ n4_ n5_; (try clear hb); (try clear hk); (try clear hi); have hnb47 := NB366_355.out; have hnc47 := NB355_366.out; have hnb48 := NB366_0.out; have hnc48 := NB0_366.out; have hcz49_0 : w46.cell? ⟨gb366, 0, none⟩ = some (.int .i64 t356) := (blk_cell BK366.out 0).trans rfl; have hcz49_1 : w46.cell? ⟨gb366, 1, none⟩ = some (.int .i64 t357) := (blk_cell BK366.out 1).trans rfl; have hcz49_2 : w46.cell? ⟨gb366, 2, none⟩ = some (.int .i64 t358) := (blk_cell BK366.out 2).trans rfl; have hcz49_3 : w46.cell? ⟨gb366, 3, none⟩ = some (.int .i64 t359) := (blk_cell BK366.out 3).trans rfl; have hcz49_4 : w46.cell? ⟨gb366, 4, none⟩ = some (.int .i64 t360) := (blk_cell BK366.out 4).trans rfl; have hcz49_5 : w46.cell? ⟨gb366, 5, none⟩ = some (.int .i64 t361) := (blk_cell BK366.out 5).trans rfl; have hcz49_6 : w46.cell? ⟨gb366, 6, none⟩ = some (.int .i64 t362) := (blk_cell BK366.out 6).trans rfl; have hcz49_7 : w46.cell? ⟨gb366, 7, none⟩ = some (.string t363) := (blk_cell BK366.out 7).trans rfl; have hfz49_0 := blk_frozen BK366.out 0; have hfz49_1 := blk_frozen BK366.out 1; have hfz49_2 := blk_frozen BK366.out 2; have hfz49_3 := blk_frozen BK366.out 3; have hfz49_4 := blk_frozen BK366.out 4; have hfz49_5 := blk_frozen BK366.out 5; have hfz49_6 := blk_frozen BK366.out 6; have hfz49_7 := blk_frozen BK366.out 7))
      go_meet
      case rel => exact ⟨_, (t392), (t393), (t356), (t357), (t358), (t391), (t360), (t361), (t362), (t363), H', ⟨by first | omega | exact Nat.le_refl _⟩, ⟨by (with_reducible repeat (first | refine bA ?_ _ | refine bB ?_ | refine bC ?_ _)); refine blk_far ?_ NB355_366.out _; (with_reducible repeat (first | refine bA ?_ _ | refine bB ?_ | refine bC ?_ _)); exact BK355.out⟩, ⟨by (with_reducible repeat (first | refine bA ?_ _ | refine bB ?_ | refine bC ?_ _)); refine bH (cs := #[.int .i64 t356, .int .i64 t357, .int .i64 t358, .int .i64 t359, .int .i64 t360, .int .i64 t361, .int .i64 t362, .string t363]) ?_ 3 _ rfl; (with_reducible repeat (first | refine bA ?_ _ | refine bB ?_ | refine bC ?_ _)); exact BK366.out⟩, ⟨by repeat (first | (with_reducible first | exact HI0.out | apply IsS82.alloc | apply IsS82.drewN | apply IsS82.drew | apply IsS82.set_1 | apply IsS82.set_2 | refine IsS82.far ?_ NB0_355.out _ | refine IsS82.far ?_ NB0_366.out _) | exact HI0.out)⟩, ⟨by repeat (first | (with_reducible first | exact HK.out | apply KeepBut.set_ | apply keep_drewN | apply keep_drew | apply keep_alloc | refine keep_far ?_ GW355.out _ | refine keep_far ?_ GW366.out _) | exact HK.out)⟩, ⟨by repeat (first | (with_reducible first | exact HB.out | apply bE | apply bD | apply bF | refine below_set ?_ (IsS82.ge HI0.out) | refine below_set ?_ GE355.out | refine below_set ?_ GE366.out) | exact HB.out)⟩⟩
     ·rw [if_neg c41] at H
      have c41b0 : (t367 == 3) = false := beq_eq_false_iff_ne.mpr c41
      have c41b1 : (t367 != 3) = true := bne_iff_ne.mpr c41
      by_cases c50 : t367 = 4
      ·rw [if_pos c50] at H
       have c50b0 : (t367 == 4) = true := beq_iff_eq.mpr c50
       have c50b1 : (t367 != 4) = false := bne_eq_false_iff_eq.mpr c50
       clear c50
       replace H := zO H
       obtain ⟨⟨t394, t395, t396, t397⟩, A510, H⟩ := H
       replace H : (spec_l4DrawMsg.j0 k s0_0 t396 t397 t356 t357 t358 t359 t394 t395 t362 t363) = some (r1, r2, r3, r4, r5, r6, r7, r8, r9, r10) := H
       have A51 := zM A510
       clear A510
       have H' := zM H
       clear H
       go_wp2_with (first | ((with_reducible refine gate_callee (f := 70) rfl ?_); refine goesL_ (some 39) rfl rfl Try.func70 (by kernel_rfl) rfl #[.pointer (some ⟨g, 0, none⟩)] rfl (by (try simp only [List.map_toArray, List.map_cons, List.map_nil]); first | done | rfl) ?_; (with_reducible refine (spec_l1DrawIval.calls k g s0_0 t368 t369 t394 t395 t396 t397 w0 _ ?side1 ?side2 A51.out).mono ?_); (case side1 => repeat (first | (with_reducible first | exact HI0.out | apply IsS82.alloc | apply IsS82.drewN | apply IsS82.drew | apply IsS82.set_1 | apply IsS82.set_2 | refine IsS82.far ?_ NB0_355.out _ | refine IsS82.far ?_ NB0_366.out _) | exact HI0.out)); (case side2 => repeat (first | (with_reducible first | exact HB.out | apply bE | apply bD | apply bF | refine below_set ?_ (IsS82.ge HI0.out) | refine below_set ?_ GE355.out | refine below_set ?_ GE366.out) | exact HB.out)); rintro e w52 ⟨rfl, hi, hb, hk⟩; refine ⟨_, rfl, ?_⟩; have n0_ := zM (KeepBut.blk hk (g' := gb355) (o := .cells #[.int .i64 0, .int .i64 0, .int .i64 0, .int .i64 0, .int .i64 0, .int .i64 0, .int .i64 0, .string (⟨#[]⟩ : ByteArray)] 32 (0, 0)) (by (with_reducible repeat (first | refine bA ?_ _ | refine bB ?_ | refine bC ?_ _)); exact BK355.out) NB355_0.out (by simp)); have n1_ := zM (KeepBut.blk hk (g' := gb366) (o := .cells #[.int .i64 t356, .int .i64 t357, .int .i64 t358, .int .i64 t359, .int .i64 t360, .int .i64 t361, .int .i64 t362, .string t363] 32 (0, 0)) (by (with_reducible repeat (first | refine bA ?_ _ | refine bB ?_ | refine bC ?_ _)); exact BK366.out) NB366_0.out (by simp)); have n2_ := zM (KeepBut.trans (by repeat (first | (with_reducible first | exact HK.out | apply KeepBut.set_ | apply keep_drewN | apply keep_drew | apply keep_alloc | refine keep_far ?_ GW355.out _ | refine keep_far ?_ GW366.out _) | exact HK.out)) hk (.inl rfl)); have n3_ := zM (hb); have n4_ := zM (hi); clear BK355; clear BK366; clear HK; clear HB; clear HI0; have BK355 := n0_; have BK366 := n1_; have HK := n2_; have HB := n3_; have HI0 := n4_; clear n0_ n1_ n2_ n3_ n4_; (try clear hb); (try clear hk); (try clear hi); have hnb53 := NB366_355.out; have hnc53 := NB355_366.out; have hnb54 := NB366_0.out; have hnc54 := NB0_366.out; have hcz55_0 : w52.cell? ⟨gb366, 0, none⟩ = some (.int .i64 t356) := (blk_cell BK366.out 0).trans rfl; have hcz55_1 : w52.cell? ⟨gb366, 1, none⟩ = some (.int .i64 t357) := (blk_cell BK366.out 1).trans rfl; have hcz55_2 : w52.cell? ⟨gb366, 2, none⟩ = some (.int .i64 t358) := (blk_cell BK366.out 2).trans rfl; have hcz55_3 : w52.cell? ⟨gb366, 3, none⟩ = some (.int .i64 t359) := (blk_cell BK366.out 3).trans rfl; have hcz55_4 : w52.cell? ⟨gb366, 4, none⟩ = some (.int .i64 t360) := (blk_cell BK366.out 4).trans rfl; have hcz55_5 : w52.cell? ⟨gb366, 5, none⟩ = some (.int .i64 t361) := (blk_cell BK366.out 5).trans rfl; have hcz55_6 : w52.cell? ⟨gb366, 6, none⟩ = some (.int .i64 t362) := (blk_cell BK366.out 6).trans rfl; have hcz55_7 : w52.cell? ⟨gb366, 7, none⟩ = some (.string t363) := (blk_cell BK366.out 7).trans rfl; have hfz55_0 := blk_frozen BK366.out 0; have hfz55_1 := blk_frozen BK366.out 1; have hfz55_2 := blk_frozen BK366.out 2; have hfz55_3 := blk_frozen BK366.out 3; have hfz55_4 := blk_frozen BK366.out 4; have hfz55_5 := blk_frozen BK366.out 5; have hfz55_6 := blk_frozen BK366.out 6; have hfz55_7 := blk_frozen BK366.out 7))
       go_meet
       case rel => exact ⟨_, (t396), (t397), (t356), (t357), (t358), (t359), (t394), (t395), (t362), (t363), H', ⟨by first | omega | exact Nat.le_refl _⟩, ⟨by (with_reducible repeat (first | refine bA ?_ _ | refine bB ?_ | refine bC ?_ _)); refine blk_far ?_ NB355_366.out _; (with_reducible repeat (first | refine bA ?_ _ | refine bB ?_ | refine bC ?_ _)); refine blk_far ?_ NB355_366.out _; (with_reducible repeat (first | refine bA ?_ _ | refine bB ?_ | refine bC ?_ _)); exact BK355.out⟩, ⟨by (with_reducible repeat (first | refine bA ?_ _ | refine bB ?_ | refine bC ?_ _)); refine bH (cs := #[.int .i64 t356, .int .i64 t357, .int .i64 t358, .int .i64 t359, .int .i64 t394, .int .i64 t361, .int .i64 t362, .string t363]) ?_ 5 _ rfl; (with_reducible repeat (first | refine bA ?_ _ | refine bB ?_ | refine bC ?_ _)); refine bH (cs := #[.int .i64 t356, .int .i64 t357, .int .i64 t358, .int .i64 t359, .int .i64 t360, .int .i64 t361, .int .i64 t362, .string t363]) ?_ 4 _ rfl; (with_reducible repeat (first | refine bA ?_ _ | refine bB ?_ | refine bC ?_ _)); exact BK366.out⟩, ⟨by repeat (first | (with_reducible first | exact HI0.out | apply IsS82.alloc | apply IsS82.drewN | apply IsS82.drew | apply IsS82.set_1 | apply IsS82.set_2 | refine IsS82.far ?_ NB0_355.out _ | refine IsS82.far ?_ NB0_366.out _) | exact HI0.out)⟩, ⟨by repeat (first | (with_reducible first | exact HK.out | apply KeepBut.set_ | apply keep_drewN | apply keep_drew | apply keep_alloc | refine keep_far ?_ GW355.out _ | refine keep_far ?_ GW366.out _) | exact HK.out)⟩, ⟨by repeat (first | (with_reducible first | exact HB.out | apply bE | apply bD | apply bF | refine below_set ?_ (IsS82.ge HI0.out) | refine below_set ?_ GE355.out | refine below_set ?_ GE366.out) | exact HB.out)⟩⟩
      ·rw [if_neg c50] at H
       have c50b0 : (t367 == 4) = false := beq_eq_false_iff_ne.mpr c50
       have c50b1 : (t367 != 4) = true := bne_iff_ne.mpr c50
       by_cases c56 : t367 = 5
       ·rw [if_pos c56] at H
        have c56b0 : (t367 == 5) = true := beq_iff_eq.mpr c56
        have c56b1 : (t367 != 5) = false := bne_eq_false_iff_eq.mpr c56
        clear c56
        obtain ⟨y398, hy398⟩ : ∃ y_ : List Int, y_ = (([(-1), 16, 15] : List Int)) := ⟨_, rfl⟩
        replace H : ((spec_l1PickInt.f s0_0 t368 t369 y398).bind fun bt401 => (spec_l4DrawMsg.j0 k s0_0 bt401.2.1 bt401.2.2 t356 t357 t358 t359 t360 t361 bt401.1 t363)) = some (r1, r2, r3, r4, r5, r6, r7, r8, r9, r10) := by first | (rw [hy398]; with_reducible exact H) | (have H2_ := (Option.bind_some _ _).symm.trans H; rw [hy398]; with_reducible exact H2_) | (have H2_ := (Option.bind_some _ _).symm.trans H; with_reducible exact H2_) | with_reducible exact H | (rw [hy398]; exact H) | exact H
        have Ny398 := zM hy398
        clear hy398
        replace H := zO H
        obtain ⟨⟨t401, t402, t403⟩, A570, H⟩ := H
        replace H : (spec_l4DrawMsg.j0 k s0_0 t402 t403 t356 t357 t358 t359 t360 t361 t401 t363) = some (r1, r2, r3, r4, r5, r6, r7, r8, r9, r10) := H
        have A57 := zM A570
        clear A570
        have H' := zM H
        clear H
        go_wp2_with (first | ((with_reducible refine gate_dst (N := 44) rfl ?_); refine Kd.R_lit (Kd.int .i64) _ 3 ?hg (N := 44) ?hd (xs := ([(-1), 16, 15] : List Int)) (inner := [.int .i64 (-1), .int .i64 16, .int .i64 15]) (ok := fun _ => True) (okp := fun _ => True) ?hr ?hp (fun _ hk => hk) trivial (Below.refl _ _) (Nat.le_refl _) (by simp) ?_; (case hd => rfl); (case hg => rfl); (case hr => first | (go_simp; done) | (go_simp; rfl)); (case hp => exact (Reps.one (show Kd.M (Kd.int .i64) _ _ _ (-1) [.int .i64 (-1)] from rfl) (Reps.one (show Kd.M (Kd.int .i64) _ _ _ 16 [.int .i64 16] from rfl) (Reps.one (show Kd.M (Kd.int .i64) _ _ _ 15 [.int .i64 15] from rfl) (Reps.none _ _))))); intro v399 w58 ho59 hb hg_ hnew_; clear hg_ hnew_; (first | rw [← Ny398.out] at ho59 | (simp only [Int.reduceToNat] at ho59; rw [← Ny398.out] at ho59)); have n0_ := zM (Kd.R_lower ho59 (keep_size (w := w) (g := g) (row := none) (by repeat (first | (with_reducible first | exact HK.out | apply KeepBut.set_ | apply keep_drewN | apply keep_drew | apply keep_alloc | refine keep_far ?_ GW355.out _ | refine keep_far ?_ GW366.out _) | exact HK.out)))); have n1_ := zM (IsS82.below (by repeat (first | (with_reducible first | exact HI0.out | apply IsS82.alloc | apply IsS82.drewN | apply IsS82.drew | apply IsS82.set_1 | apply IsS82.set_2 | refine IsS82.far ?_ NB0_355.out _ | refine IsS82.far ?_ NB0_366.out _) | exact HI0.out)) hb); have n2_ := zM (blk_below (g := gb355) (o := .cells #[.int .i64 0, .int .i64 0, .int .i64 0, .int .i64 0, .int .i64 0, .int .i64 0, .int .i64 0, .string (⟨#[]⟩ : ByteArray)] 32 (0, 0)) (by (with_reducible repeat (first | refine bA ?_ _ | refine bB ?_ | refine bC ?_ _)); exact BK355.out) hb); have n3_ := zM (blk_below (g := gb366) (o := .cells #[.int .i64 t356, .int .i64 t357, .int .i64 t358, .int .i64 t359, .int .i64 t360, .int .i64 t361, .int .i64 t362, .string t363] 32 (0, 0)) (by (with_reducible repeat (first | refine bA ?_ _ | refine bB ?_ | refine bC ?_ _)); exact BK366.out) hb); have n4_ := zM (KeepBut.trans (by repeat (first | (with_reducible first | exact HK.out | apply KeepBut.set_ | apply keep_drewN | apply keep_drew | apply keep_alloc | refine keep_far ?_ GW355.out _ | refine keep_far ?_ GW366.out _) | exact HK.out)) (KeepBut.of_below hb g none) (.inl rfl)); have n5_ := zM (bG (by repeat (first | (with_reducible first | exact HB.out | apply bE | apply bD | apply bF | refine below_set ?_ (IsS82.ge HI0.out) | refine below_set ?_ GE355.out | refine below_set ?_ GE366.out) | exact HB.out)) hb); clear HI0; clear BK355; clear BK366; clear HK; clear HB; have HO400 := n0_; have HI0 := n1_; have BK355 := n2_; have BK366 := n3_; have HK := n4_; have HB := n5_; clear n0_ n1_ n2_ n3_ n4_ n5_; clear hb ho59; obtain ⟨Ao60, co60, eo60⟩ := Kd.R_slice HO400.out; subst eo60) | ((with_reducible refine gate_callee (f := 69) rfl ?_); refine goesL_ (some 45) rfl rfl Try.func69 (by kernel_rfl) rfl #[.pointer (some ⟨g, 0, none⟩), .slice Ao60 y398.length co60] rfl (by (try simp only [List.map_toArray, List.map_cons, List.map_nil]); first | done | rfl) ?_; (with_reducible refine (spec_l1PickInt.calls g s0_0 t368 t369 _ _ y398 t401 t402 t403 w0 _ ?side1 ?side2 ?side3 ?side4 ?side5 A57.out).mono ?_); (case side1 => repeat (first | (with_reducible first | exact HI0.out | apply IsS82.alloc | apply IsS82.drewN | apply IsS82.drew | apply IsS82.set_1 | apply IsS82.set_2 | refine IsS82.far ?_ NB0_355.out _ | refine IsS82.far ?_ NB0_366.out _) | exact HI0.out)); (case side2 => repeat (first | (with_reducible first | exact HB.out | apply bE | apply bD | apply bF | refine below_set ?_ (IsS82.ge HI0.out) | refine below_set ?_ GE355.out | refine below_set ?_ GE366.out) | exact HB.out)); (case side3 => repeat (first | exact (Kd.R_reads' HO400.out).2.2 | (with_reducible refine Kd.C_alloc ?_ _) | (with_reducible refine Kd.C_drewN ?_ _) | (with_reducible refine Kd.C_drew ?_))); (case side4 => exact (Kd.R_reads' HO400.out).2.1); (case side5 => exact far_slice (IsS82.own_ne HI0.out HO400.out (by decide))); rintro e w61 ⟨rfl, hi, hb, hk⟩; refine ⟨_, rfl, ?_⟩; have n0_ := zM (KeepBut.blk hk (g' := gb355) (o := .cells #[.int .i64 0, .int .i64 0, .int .i64 0, .int .i64 0, .int .i64 0, .int .i64 0, .int .i64 0, .string (⟨#[]⟩ : ByteArray)] 32 (0, 0)) (by (with_reducible repeat (first | refine bA ?_ _ | refine bB ?_ | refine bC ?_ _)); exact BK355.out) NB355_0.out (by simp)); have n1_ := zM (KeepBut.blk hk (g' := gb366) (o := .cells #[.int .i64 t356, .int .i64 t357, .int .i64 t358, .int .i64 t359, .int .i64 t360, .int .i64 t361, .int .i64 t362, .string t363] 32 (0, 0)) (by (with_reducible repeat (first | refine bA ?_ _ | refine bB ?_ | refine bC ?_ _)); exact BK366.out) NB366_0.out (by simp)); have n2_ := zM (Kd.R_mono (Kd.R_keep (IsS82.apart (show IsS82 w0 _ g s0_0 t368 t369 from by repeat (first | (with_reducible first | exact HI0.out | apply IsS82.alloc | apply IsS82.drewN | apply IsS82.drew | apply IsS82.set_1 | apply IsS82.set_2 | refine IsS82.far ?_ NB0_355.out _ | refine IsS82.far ?_ NB0_366.out _) | exact HI0.out)) (by (with_reducible repeat (first | apply Kd.R_alloc | apply Kd.R_drewN | apply Kd.R_drew)); exact HO400.out) (by decide)) hk (fun _ h => h.2)) (fun _ h => h.1)); have n3_ := zM (KeepBut.trans (by repeat (first | (with_reducible first | exact HK.out | apply KeepBut.set_ | apply keep_drewN | apply keep_drew | apply keep_alloc | refine keep_far ?_ GW355.out _ | refine keep_far ?_ GW366.out _) | exact HK.out)) hk (.inl rfl)); have n4_ := zM (hb); have n5_ := zM (hi); clear BK355; clear BK366; clear HO400; clear HK; clear HB; clear HI0; have BK355 := n0_; have BK366 := n1_; have HO400 := n2_; have HK := n3_; have HB := n4_; have HI0 := n5_; clear n0_ n1_ n2_ n3_ n4_ n5_; (try clear hb); (try clear hk); (try clear hi); have hnb62 := NB366_355.out; have hnc62 := NB355_366.out; have hnb63 := NB366_0.out; have hnc63 := NB0_366.out; have hcz64_0 : w61.cell? ⟨gb366, 0, none⟩ = some (.int .i64 t356) := (blk_cell BK366.out 0).trans rfl; have hcz64_1 : w61.cell? ⟨gb366, 1, none⟩ = some (.int .i64 t357) := (blk_cell BK366.out 1).trans rfl; have hcz64_2 : w61.cell? ⟨gb366, 2, none⟩ = some (.int .i64 t358) := (blk_cell BK366.out 2).trans rfl; have hcz64_3 : w61.cell? ⟨gb366, 3, none⟩ = some (.int .i64 t359) := (blk_cell BK366.out 3).trans rfl; have hcz64_4 : w61.cell? ⟨gb366, 4, none⟩ = some (.int .i64 t360) := (blk_cell BK366.out 4).trans rfl; have hcz64_5 : w61.cell? ⟨gb366, 5, none⟩ = some (.int .i64 t361) := (blk_cell BK366.out 5).trans rfl; have hcz64_6 : w61.cell? ⟨gb366, 6, none⟩ = some (.int .i64 t362) := (blk_cell BK366.out 6).trans rfl; have hcz64_7 : w61.cell? ⟨gb366, 7, none⟩ = some (.string t363) := (blk_cell BK366.out 7).trans rfl; have hfz64_0 := blk_frozen BK366.out 0; have hfz64_1 := blk_frozen BK366.out 1; have hfz64_2 := blk_frozen BK366.out 2; have hfz64_3 := blk_frozen BK366.out 3; have hfz64_4 := blk_frozen BK366.out 4; have hfz64_5 := blk_frozen BK366.out 5; have hfz64_6 := blk_frozen BK366.out 6; have hfz64_7 := blk_frozen BK366.out 7))
        go_meet
        case rel => exact ⟨_, (t402), (t403), (t356), (t357), (t358), (t359), (t360), (t361), (t401), (t363), H', ⟨by first | omega | exact Nat.le_refl _⟩, ⟨by (with_reducible repeat (first | refine bA ?_ _ | refine bB ?_ | refine bC ?_ _)); refine blk_far ?_ NB355_366.out _; (with_reducible repeat (first | refine bA ?_ _ | refine bB ?_ | refine bC ?_ _)); exact BK355.out⟩, ⟨by (with_reducible repeat (first | refine bA ?_ _ | refine bB ?_ | refine bC ?_ _)); refine bH (cs := #[.int .i64 t356, .int .i64 t357, .int .i64 t358, .int .i64 t359, .int .i64 t360, .int .i64 t361, .int .i64 t362, .string t363]) ?_ 6 _ rfl; (with_reducible repeat (first | refine bA ?_ _ | refine bB ?_ | refine bC ?_ _)); exact BK366.out⟩, ⟨by repeat (first | (with_reducible first | exact HI0.out | apply IsS82.alloc | apply IsS82.drewN | apply IsS82.drew | apply IsS82.set_1 | apply IsS82.set_2 | refine IsS82.far ?_ NB0_355.out _ | refine IsS82.far ?_ NB0_366.out _) | exact HI0.out)⟩, ⟨by repeat (first | (with_reducible first | exact HK.out | apply KeepBut.set_ | apply keep_drewN | apply keep_drew | apply keep_alloc | refine keep_far ?_ GW355.out _ | refine keep_far ?_ GW366.out _) | exact HK.out)⟩, ⟨by repeat (first | (with_reducible first | exact HB.out | apply bE | apply bD | apply bF | refine below_set ?_ (IsS82.ge HI0.out) | refine below_set ?_ GE355.out | refine below_set ?_ GE366.out) | exact HB.out)⟩⟩
       ·rw [if_neg c56] at H
        have c56b0 : (t367 == 5) = false := beq_eq_false_iff_ne.mpr c56
        have c56b1 : (t367 != 5) = true := bne_iff_ne.mpr c56
        by_cases c65 : t367 = 6
        ·rw [if_pos c65] at H
         have c65b0 : (t367 == 6) = true := beq_iff_eq.mpr c65
         have c65b1 : (t367 != 6) = false := bne_eq_false_iff_eq.mpr c65
         clear c65
         have H' := zM H
         clear H
         have hnb66 := NB366_355.out
         have hnc66 := NB355_366.out
         have hnb67 := NB366_0.out
         have hnc67 := NB0_366.out
         have hcz68_0 : w11.cell? ⟨gb366, 0, none⟩ = some (.int .i64 t356) := (blk_cell BK366.out 0).trans rfl
         have hcz68_1 : w11.cell? ⟨gb366, 1, none⟩ = some (.int .i64 t357) := (blk_cell BK366.out 1).trans rfl
         have hcz68_2 : w11.cell? ⟨gb366, 2, none⟩ = some (.int .i64 t358) := (blk_cell BK366.out 2).trans rfl
         have hcz68_3 : w11.cell? ⟨gb366, 3, none⟩ = some (.int .i64 t359) := (blk_cell BK366.out 3).trans rfl
         have hcz68_4 : w11.cell? ⟨gb366, 4, none⟩ = some (.int .i64 t360) := (blk_cell BK366.out 4).trans rfl
         have hcz68_5 : w11.cell? ⟨gb366, 5, none⟩ = some (.int .i64 t361) := (blk_cell BK366.out 5).trans rfl
         have hcz68_6 : w11.cell? ⟨gb366, 6, none⟩ = some (.int .i64 t362) := (blk_cell BK366.out 6).trans rfl
         have hcz68_7 : w11.cell? ⟨gb366, 7, none⟩ = some (.string t363) := (blk_cell BK366.out 7).trans rfl
         have hfz68_0 := blk_frozen BK366.out 0
         have hfz68_1 := blk_frozen BK366.out 1
         have hfz68_2 := blk_frozen BK366.out 2
         have hfz68_3 := blk_frozen BK366.out 3
         have hfz68_4 := blk_frozen BK366.out 4
         have hfz68_5 := blk_frozen BK366.out 5
         have hfz68_6 := blk_frozen BK366.out 6
         have hfz68_7 := blk_frozen BK366.out 7
         go_wp2
         go_meet
         case rel => exact ⟨_, (t368), (t369), (t356), (t357), (t358), (t359), (t360), (t361), (t362), ((⟨#[97, 98, 99, 100, 101, 102, 103, 104, 105, 106, 107, 108, 109, 110, 111, 112, 113, 114, 115, 116, 117, 118, 119, 120, 121]⟩ : ByteArray)), H', ⟨by first | omega | exact Nat.le_refl _⟩, ⟨by (with_reducible repeat (first | refine bA ?_ _ | refine bB ?_ | refine bC ?_ _)); refine blk_far ?_ NB355_366.out _; (with_reducible repeat (first | refine bA ?_ _ | refine bB ?_ | refine bC ?_ _)); exact BK355.out⟩, ⟨by (with_reducible repeat (first | refine bA ?_ _ | refine bB ?_ | refine bC ?_ _)); refine bH (cs := #[.int .i64 t356, .int .i64 t357, .int .i64 t358, .int .i64 t359, .int .i64 t360, .int .i64 t361, .int .i64 t362, .string t363]) ?_ 7 _ rfl; (with_reducible repeat (first | refine bA ?_ _ | refine bB ?_ | refine bC ?_ _)); exact BK366.out⟩, ⟨by repeat (first | (with_reducible first | exact HI0.out | apply IsS82.alloc | apply IsS82.drewN | apply IsS82.drew | apply IsS82.set_1 | apply IsS82.set_2 | refine IsS82.far ?_ NB0_355.out _ | refine IsS82.far ?_ NB0_366.out _) | exact HI0.out)⟩, ⟨by repeat (first | (with_reducible first | exact HK.out | apply KeepBut.set_ | apply keep_drewN | apply keep_drew | apply keep_alloc | refine keep_far ?_ GW355.out _ | refine keep_far ?_ GW366.out _) | exact HK.out)⟩, ⟨by repeat (first | (with_reducible first | exact HB.out | apply bE | apply bD | apply bF | refine below_set ?_ (IsS82.ge HI0.out) | refine below_set ?_ GE355.out | refine below_set ?_ GE366.out) | exact HB.out)⟩⟩
        ·rw [if_neg c65] at H
         have c65b0 : (t367 == 6) = false := beq_eq_false_iff_ne.mpr c65
         have c65b1 : (t367 != 6) = true := bne_iff_ne.mpr c65
         have H' := zM H
         clear H
         go_wp2
         go_meet
         case rel => exact ⟨_, (t368), (t369), (t356), (t357), (t358), (t359), (t360), (t361), (t362), (t363), H', ⟨by first | omega | exact Nat.le_refl _⟩, ⟨by (with_reducible repeat (first | refine bA ?_ _ | refine bB ?_ | refine bC ?_ _)); exact BK355.out⟩, ⟨by (with_reducible repeat (first | refine bA ?_ _ | refine bB ?_ | refine bC ?_ _)); exact BK366.out⟩, ⟨by repeat (first | (with_reducible first | exact HI0.out | apply IsS82.alloc | apply IsS82.drewN | apply IsS82.drew | apply IsS82.set_1 | apply IsS82.set_2 | refine IsS82.far ?_ NB0_355.out _ | refine IsS82.far ?_ NB0_366.out _) | exact HI0.out)⟩, ⟨by repeat (first | (with_reducible first | exact HK.out | apply KeepBut.set_ | apply keep_drewN | apply keep_drew | apply keep_alloc | refine keep_far ?_ GW355.out _ | refine keep_far ?_ GW366.out _) | exact HK.out)⟩, ⟨by repeat (first | (with_reducible first | exact HB.out | apply bE | apply bD | apply bF | refine below_set ?_ (IsS82.ge HI0.out) | refine below_set ?_ GE355.out | refine below_set ?_ GE366.out) | exact HB.out)⟩⟩
 case rest =>
  clear HC4
  try clear c1
  try clear c2
  try clear p2
  try clear c3
  try clear c4
  try clear c5
  try clear c6
  try clear c7
  try clear c8
  try clear c9
  try clear c12
  try clear c12b0
  try clear c12b1
  try clear c18
  try clear c19
  try clear c21
  try clear c21b0
  try clear c21b1
  try clear c23
  try clear c24
  try clear c31
  try clear c31b0
  try clear c31b1
  try clear c33
  try clear c34
  try clear c41
  try clear c41b0
  try clear c41b1
  try clear c47
  try clear c48
  try clear c50
  try clear c50b0
  try clear c50b1
  try clear c52
  try clear c53
  try clear c54
  try clear c56
  try clear c56b0
  try clear c56b1
  try clear c62
  try clear c63
  try clear c65
  try clear c65b0
  try clear c65b1
  try clear c66
  try clear c67
  try clear c68
  try clear hcz10_0
  try clear hcz10_1
  try clear hcz10_2
  try clear hcz10_3
  try clear hcz10_4
  try clear hcz10_5
  try clear hcz10_6
  try clear hcz10_7
  try clear hcz20_0
  try clear hcz20_1
  try clear hcz20_2
  try clear hcz20_3
  try clear hcz20_4
  try clear hcz20_5
  try clear hcz20_6
  try clear hcz20_7
  try clear hcz25_0
  try clear hcz25_1
  try clear hcz25_2
  try clear hcz25_3
  try clear hcz25_4
  try clear hcz25_5
  try clear hcz25_6
  try clear hcz25_7
  try clear hcz30_0
  try clear hcz30_1
  try clear hcz30_2
  try clear hcz30_3
  try clear hcz30_4
  try clear hcz30_5
  try clear hcz30_6
  try clear hcz30_7
  try clear hcz35_0
  try clear hcz35_1
  try clear hcz35_2
  try clear hcz35_3
  try clear hcz35_4
  try clear hcz35_5
  try clear hcz35_6
  try clear hcz35_7
  try clear hcz40_0
  try clear hcz40_1
  try clear hcz40_2
  try clear hcz40_3
  try clear hcz40_4
  try clear hcz40_5
  try clear hcz40_6
  try clear hcz40_7
  try clear hcz49_0
  try clear hcz49_1
  try clear hcz49_2
  try clear hcz49_3
  try clear hcz49_4
  try clear hcz49_5
  try clear hcz49_6
  try clear hcz49_7
  try clear hcz55_0
  try clear hcz55_1
  try clear hcz55_2
  try clear hcz55_3
  try clear hcz55_4
  try clear hcz55_5
  try clear hcz55_6
  try clear hcz55_7
  try clear hcz64_0
  try clear hcz64_1
  try clear hcz64_2
  try clear hcz64_3
  try clear hcz64_4
  try clear hcz64_5
  try clear hcz64_6
  try clear hcz64_7
  try clear hcz68_0
  try clear hcz68_1
  try clear hcz68_2
  try clear hcz68_3
  try clear hcz68_4
  try clear hcz68_5
  try clear hcz68_6
  try clear hcz68_7
  try clear hfz10_0
  try clear hfz10_1
  try clear hfz10_2
  try clear hfz10_3
  try clear hfz10_4
  try clear hfz10_5
  try clear hfz10_6
  try clear hfz10_7
  try clear hfz20_0
  try clear hfz20_1
  try clear hfz20_2
  try clear hfz20_3
  try clear hfz20_4
  try clear hfz20_5
  try clear hfz20_6
  try clear hfz20_7
  try clear hfz25_0
  try clear hfz25_1
  try clear hfz25_2
  try clear hfz25_3
  try clear hfz25_4
  try clear hfz25_5
  try clear hfz25_6
  try clear hfz25_7
  try clear hfz30_0
  try clear hfz30_1
  try clear hfz30_2
  try clear hfz30_3
  try clear hfz30_4
  try clear hfz30_5
  try clear hfz30_6
  try clear hfz30_7
  try clear hfz35_0
  try clear hfz35_1
  try clear hfz35_2
  try clear hfz35_3
  try clear hfz35_4
  try clear hfz35_5
  try clear hfz35_6
  try clear hfz35_7
  try clear hfz40_0
  try clear hfz40_1
  try clear hfz40_2
  try clear hfz40_3
  try clear hfz40_4
  try clear hfz40_5
  try clear hfz40_6
  try clear hfz40_7
  try clear hfz49_0
  try clear hfz49_1
  try clear hfz49_2
  try clear hfz49_3
  try clear hfz49_4
  try clear hfz49_5
  try clear hfz49_6
  try clear hfz49_7
  try clear hfz55_0
  try clear hfz55_1
  try clear hfz55_2
  try clear hfz55_3
  try clear hfz55_4
  try clear hfz55_5
  try clear hfz55_6
  try clear hfz55_7
  try clear hfz64_0
  try clear hfz64_1
  try clear hfz64_2
  try clear hfz64_3
  try clear hfz64_4
  try clear hfz64_5
  try clear hfz64_6
  try clear hfz64_7
  try clear hfz68_0
  try clear hfz68_1
  try clear hfz68_2
  try clear hfz68_3
  try clear hfz68_4
  try clear hfz68_5
  try clear hfz68_6
  try clear hfz68_7
  obtain ⟨kq, x1001_3, x1002_3, x367000_3, x367001_3, x367002_3, x367003_3, x367004_3, x367005_3, x367006_3, x367007_3, HA, HJ3, BK355, BK366, HI0, HK, HB⟩ := hcut
  cases kq with
  | zero => exact absurd HA.out (by simp [spec_l4DrawMsg.j0])
  | succ kj3 =>
   have H := HA.out
   clear HA
   simp only [spec_l4DrawMsg.j0] at H
   simp only [zI, zJ] at H
   obtain ⟨rfl, rfl, rfl, rfl, rfl, rfl, rfl, rfl, rfl, rfl⟩ := H
   have hnb69 := NB366_355.out
   have hnc69 := NB355_366.out
   have hnb70 := NB366_0.out
   have hnc70 := NB0_366.out
   have hcz71_0 : wc.cell? ⟨gb366, 0, none⟩ = some (.int .i64 x367000_3) := (blk_cell BK366.out 0).trans rfl
   have hcz71_1 : wc.cell? ⟨gb366, 1, none⟩ = some (.int .i64 x367001_3) := (blk_cell BK366.out 1).trans rfl
   have hcz71_2 : wc.cell? ⟨gb366, 2, none⟩ = some (.int .i64 x367002_3) := (blk_cell BK366.out 2).trans rfl
   have hcz71_3 : wc.cell? ⟨gb366, 3, none⟩ = some (.int .i64 x367003_3) := (blk_cell BK366.out 3).trans rfl
   have hcz71_4 : wc.cell? ⟨gb366, 4, none⟩ = some (.int .i64 x367004_3) := (blk_cell BK366.out 4).trans rfl
   have hcz71_5 : wc.cell? ⟨gb366, 5, none⟩ = some (.int .i64 x367005_3) := (blk_cell BK366.out 5).trans rfl
   have hcz71_6 : wc.cell? ⟨gb366, 6, none⟩ = some (.int .i64 x367006_3) := (blk_cell BK366.out 6).trans rfl
   have hcz71_7 : wc.cell? ⟨gb366, 7, none⟩ = some (.string x367007_3) := (blk_cell BK366.out 7).trans rfl
   have hfz71_0 := blk_frozen BK366.out 0
   have hfz71_1 := blk_frozen BK366.out 1
   have hfz71_2 := blk_frozen BK366.out 2
   have hfz71_3 := blk_frozen BK366.out 3
   have hfz71_4 := blk_frozen BK366.out 4
   have hfz71_5 := blk_frozen BK366.out 5
   have hfz71_6 := blk_frozen BK366.out 6
   have hfz71_7 := blk_frozen BK366.out 7
   have hnb72 := NB355_0.out
   have hnc72 := NB0_355.out
   have hcz73_0 : wc.cell? ⟨gb355, 0, none⟩ = some (.int .i64 0) := (blk_cell BK355.out 0).trans rfl
   have hcz73_1 : wc.cell? ⟨gb355, 1, none⟩ = some (.int .i64 0) := (blk_cell BK355.out 1).trans rfl
   have hcz73_2 : wc.cell? ⟨gb355, 2, none⟩ = some (.int .i64 0) := (blk_cell BK355.out 2).trans rfl
   have hcz73_3 : wc.cell? ⟨gb355, 3, none⟩ = some (.int .i64 0) := (blk_cell BK355.out 3).trans rfl
   have hcz73_4 : wc.cell? ⟨gb355, 4, none⟩ = some (.int .i64 0) := (blk_cell BK355.out 4).trans rfl
   have hcz73_5 : wc.cell? ⟨gb355, 5, none⟩ = some (.int .i64 0) := (blk_cell BK355.out 5).trans rfl
   have hcz73_6 : wc.cell? ⟨gb355, 6, none⟩ = some (.int .i64 0) := (blk_cell BK355.out 6).trans rfl
   have hcz73_7 : wc.cell? ⟨gb355, 7, none⟩ = some (.string (⟨#[]⟩ : ByteArray)) := (blk_cell BK355.out 7).trans rfl
   have hfz73_0 := blk_frozen BK355.out 0
   have hfz73_1 := blk_frozen BK355.out 1
   have hfz73_2 := blk_frozen BK355.out 2
   have hfz73_3 := blk_frozen BK355.out 3
   have hfz73_4 := blk_frozen BK355.out 4
   have hfz73_5 := blk_frozen BK355.out 5
   have hfz73_6 := blk_frozen BK355.out 6
   have hfz73_7 := blk_frozen BK355.out 7
   go_wp2
   refine bodyPost_ret (results_cell_row rfl _ _ gb355 32 #[.int .i64 x367000_3, .int .i64 x367001_3, .int .i64 x367002_3, .int .i64 x367003_3, .int .i64 x367004_3, .int .i64 x367005_3, .int .i64 x367006_3, .string x367007_3] (0, 0) _ rfl (by (with_reducible repeat (first | refine bA ?_ _ | refine bB ?_ | refine bC ?_ _)); refine bH (cs := #[.int .i64 x367000_3, .int .i64 x367001_3, .int .i64 x367002_3, .int .i64 x367003_3, .int .i64 x367004_3, .int .i64 x367005_3, .int .i64 x367006_3, .string (⟨#[]⟩ : ByteArray)]) ?_ 7 _ rfl; (with_reducible repeat (first | refine bA ?_ _ | refine bB ?_ | refine bC ?_ _)); refine bH (cs := #[.int .i64 x367000_3, .int .i64 x367001_3, .int .i64 x367002_3, .int .i64 x367003_3, .int .i64 x367004_3, .int .i64 x367005_3, .int .i64 0, .string (⟨#[]⟩ : ByteArray)]) ?_ 6 _ rfl; (with_reducible repeat (first | refine bA ?_ _ | refine bB ?_ | refine bC ?_ _)); refine bH (cs := #[.int .i64 x367000_3, .int .i64 x367001_3, .int .i64 x367002_3, .int .i64 x367003_3, .int .i64 x367004_3, .int .i64 0, .int .i64 0, .string (⟨#[]⟩ : ByteArray)]) ?_ 5 _ rfl; (with_reducible repeat (first | refine bA ?_ _ | refine bB ?_ | refine bC ?_ _)); refine bH (cs := #[.int .i64 x367000_3, .int .i64 x367001_3, .int .i64 x367002_3, .int .i64 x367003_3, .int .i64 0, .int .i64 0, .int .i64 0, .string (⟨#[]⟩ : ByteArray)]) ?_ 4 _ rfl; (with_reducible repeat (first | refine bA ?_ _ | refine bB ?_ | refine bC ?_ _)); refine bH (cs := #[.int .i64 x367000_3, .int .i64 x367001_3, .int .i64 x367002_3, .int .i64 0, .int .i64 0, .int .i64 0, .int .i64 0, .string (⟨#[]⟩ : ByteArray)]) ?_ 3 _ rfl; (with_reducible repeat (first | refine bA ?_ _ | refine bB ?_ | refine bC ?_ _)); refine bH (cs := #[.int .i64 x367000_3, .int .i64 x367001_3, .int .i64 0, .int .i64 0, .int .i64 0, .int .i64 0, .int .i64 0, .string (⟨#[]⟩ : ByteArray)]) ?_ 2 _ rfl; (with_reducible repeat (first | refine bA ?_ _ | refine bB ?_ | refine bC ?_ _)); refine bH (cs := #[.int .i64 x367000_3, .int .i64 0, .int .i64 0, .int .i64 0, .int .i64 0, .int .i64 0, .int .i64 0, .string (⟨#[]⟩ : ByteArray)]) ?_ 1 _ rfl; (with_reducible repeat (first | refine bA ?_ _ | refine bB ?_ | refine bC ?_ _)); refine bH (cs := #[.int .i64 0, .int .i64 0, .int .i64 0, .int .i64 0, .int .i64 0, .int .i64 0, .int .i64 0, .string (⟨#[]⟩ : ByteArray)]) ?_ 0 _ rfl; (with_reducible repeat (first | refine bA ?_ _ | refine bB ?_ | refine bC ?_ _)); exact BK355.out) Try.underlying32 rfl (by kernel_rfl)) rfl ?_
   exact ⟨by first | rfl | (simp [*, errW_none, errW_some] <;> rfl), by repeat (first | (with_reducible first | exact HI0.out | apply IsS82.alloc | apply IsS82.drewN | apply IsS82.drew | apply IsS82.set_1 | apply IsS82.set_2 | refine IsS82.far ?_ NB0_355.out _ | refine IsS82.far ?_ NB0_366.out _) | exact HI0.out), by repeat (first | (with_reducible first | exact HB.out | apply bE | apply bD | apply bF | refine below_set ?_ (IsS82.ge HI0.out) | refine below_set ?_ GE355.out | refine below_set ?_ GE366.out) | exact HB.out), by repeat (first | (with_reducible first | exact HK.out | apply KeepBut.set_ | apply keep_drewN | apply keep_drew | apply keep_alloc | refine keep_far ?_ GW355.out _ | refine keep_far ?_ GW366.out _) | exact HK.out)⟩

/-! ### spec_l1New: function 53 -/
def spec_l1New.l0 : Nat → List Int → Int → Int → Option (List Int × Int × Int)
 | 0, _, _, _ => none
 | k + 1, x0, x3, x4 => if x4 < (x0.length : Int) then (if x4 < 4000 then (if 0 ≤ x4 then (spec_l1New.l0 k x0 (Go.bits .and .i64 (wrap64 ((wrap64 ((wrap64 (x3 * 131)) + (wrap64 (rd x0 x4)))) + 7)) 1073741823) (wrap64 (x4 + 1))) else (none)) else (some (x0, 0, x3))) else (some (x0, 0, x3))
def spec_l1New.f (k : Nat) (l0 : List Int) : Option (List Int × Int × Int) := spec_l1New.l0 k l0 (wrap64 (72072 + (l0.length : Int))) 0
theorem spec_l1New.mono_l : ∀ k, (∀ y0 y1 y2, LeO (spec_l1New.l0 k y0 y1 y2) (spec_l1New.l0 (k + 1) y0 y1 y2))
 | 0 => fun _ _ _ r h => by simp [spec_l1New.l0] at h
 | k + 1 => by
  have ih0 := spec_l1New.mono_l k
  ·intro y0 y1 y2
   unfold spec_l1New.l0
   repeat' first
   | (with_reducible exact ih0 _ _ _)
   | (with_reducible exact LeO.refl _)
   | (with_reducible exact LeO.none _)
   | (with_reducible refine LeO.ite ?_ ?_)
   | (with_reducible refine LeO.bind ?_ (fun _ => ?_))
   | exact ih0 _ _ _
   | exact LeO.none _
   | refine LeO.ite ?_ ?_
   | refine LeO.bind ?_ (fun _ => ?_)
theorem spec_l1New.mono : ∀ a0 k, LeO (spec_l1New.f k a0) (spec_l1New.f (k + 1) a0) := by
 intro a0 k
 have ih0 := spec_l1New.mono_l k
 unfold spec_l1New.f
 repeat' first
   | (with_reducible exact ih0 _ _ _)
   | (with_reducible exact LeO.refl _)
   | (with_reducible exact LeO.none _)
   | (with_reducible refine LeO.ite ?_ ?_)
   | (with_reducible refine LeO.bind ?_ (fun _ => ?_))
   | exact ih0 _ _ _
   | exact LeO.none _
   | refine LeO.ite ?_ ?_
   | refine LeO.bind ?_ (fun _ => ?_)
theorem spec_l1New.calls (k : Nat) (A0 : Option Addr) (c0 : Nat) (l0 : List Int) (r1 : List Int) (r2 : Int) (r3 : Int) (w0 w : World) (hB : Below w0.heap.size w0 w) (hr0 : Kd.C (Kd.int .u8) w0 A0 l0.length l0) (hc0 : l0.length ≤ c0) (h : spec_l1New.f k l0 = some (r1, r2, r3)) :
  Calls Try.prog 53 #[.slice A0 l0.length c0] w fun e w' => ∃ g_ : Nat, e = .returned (.pointer (some ⟨g_, 0, none⟩)) ∧ IsS82 w0 w' g_ r1 r2 r3 ∧ Below w0.heap.size w0 w' ∧ Below w.heap.size w w' := by
 have hu82 := Try.underlying82
 have HR0 := zM hr0
 have HC0 := zM hc0
 clear hr0 hc0
 have HBW := zM (Below.refl w.heap.size w)
 have HW0 := zM hB.size
 have HB := zM hB
 clear hB
 have H : (spec_l1New.l0 k l0 (wrap64 (72072 + (l0.length : Int))) 0) = some (r1, r2, r3) := h
 clear h
 have H' := zM H
 clear H
 go_enter Try.func53, Try.ntmps53
 go_wp2
 go_loopg [3, 4] k (fun kq v3 v4 w' => ∃ (x3_1 : Int) (x4_1 : Int), v3 = .int .i64 x3_1 ∧ v4 = .int .i64 x4_1 ∧ Aside0 (spec_l1New.l0 kq l0 x3_1 x4_1 = some (r1, r2, r3)) ∧ Aside0 (kq ≤ k) ∧ Aside0 (Below w.heap.size w w') ∧ Aside0 (Below w0.heap.size w0 w'))
 case atStart => exact ⟨(wrap64 (72072 + (l0.length : Int))), (0), (by first | rfl | (simp; done) | (simp [*]; done)), (by first | rfl | (simp; done) | (simp [*]; done)), H', ⟨Nat.le_refl _⟩, ⟨by repeat (first | (with_reducible first | exact HBW.out | apply bE | apply bD | apply bF) | exact HBW.out)⟩, ⟨by repeat (first | (with_reducible first | exact HB.out | apply bE | apply bD | apply bF) | exact HB.out)⟩⟩
 case round =>
  clear H'
  obtain ⟨x3_1, x4_1, rfl, rfl, HA, HK1, HBW, HB⟩ := hrel
  cases gk with
  | zero => exact absurd HA.out (by simp [spec_l1New.l0])
  | succ k1 =>
   have H := HA.out
   clear HA
   simp only [spec_l1New.l0] at H
   by_cases c2 : x4_1 < (l0.length : Int)
   ·rw [if_pos c2] at H
    have c2b0 : decide (x4_1 < (l0.length : Int)) = true := decide_eq_true c2
    clear c2
    by_cases c3 : x4_1 < 4000
    ·rw [if_pos c3] at H
     have c3b0 : decide (x4_1 < 4000) = true := decide_eq_true c3
     clear c3
     by_cases c4 : 0 ≤ x4_1
     ·rw [if_pos c4] at H
      have c4b0 : decide (0 ≤ x4_1) = true := decide_eq_true c4
      clear c4
      have H' := zM H
      clear H
      have p404 : 0 ≤ (x4_1 : Int) := of_decide_eq_true (by first | (with_reducible assumption) | assumption)
      have q404 : x4_1 < (l0.length : Int) := of_decide_eq_true (by first | (with_reducible assumption) | assumption)
      obtain ⟨ad404, e404, hx404_0⟩ := Kd.at_int HR0.out x4_1 p404 q404
      cases e404
      replace hx404_0 := pw_cell_below HB.out hx404_0
      replace p404 := eq_true p404
      replace q404 := eq_true q404
      go_wp2
      go_roundg k1
      case measure => have := HK1.out; omega
      case rel => exact ⟨(Go.bits .and .i64 (wrap64 ((wrap64 ((wrap64 (x3_1 * 131)) + (wrap64 (rd l0 x4_1)))) + 7)) 1073741823), (wrap64 (x4_1 + 1)), (by first | rfl | (simp; done) | (simp [*]; done)), (by first | rfl | (simp; done) | (simp [*]; done)), H', ⟨by have := HK1.out; omega⟩, ⟨by repeat (first | (with_reducible first | exact HBW.out | apply bE | apply bD | apply bF) | exact HBW.out)⟩, ⟨by repeat (first | (with_reducible first | exact HB.out | apply bE | apply bD | apply bF) | exact HB.out)⟩⟩
     ·rw [if_neg c4] at H
      exact absurd H (by simp)
    ·rw [if_neg c3] at H
     have c3b0 : decide (x4_1 < 4000) = false := decide_eq_false c3
     clear c3
     simp only [zI, zJ] at H
     obtain ⟨rfl, rfl, rfl⟩ := H
     go_wp2_with (first | ((with_reducible refine gate_dst (N := 31) rfl ?_); refine box_event ?hg (N := 31) ?hd (cs := #[.slice A0 l0.length c0, .int .i64 0, .int .i64 x3_1]) (t := 82) ?hr ?_; (case hd => rfl); (case hg => rfl); (case hr => first | (go_simp; done) | (go_simp; rfl)); intro gb405 hg w5 hbox hb; have n0_ := zM (bG HBW.out hb); have n1_ := zM (bG (by repeat (first | (with_reducible first | exact HB.out | apply bE | apply bD | apply bF) | exact HB.out)) hb); have n2_ := zM (hbox); have n3_ := zM ((by rw [hg]; exact (below_size (by repeat (first | (with_reducible first | exact HBW.out | apply bE | apply bD | apply bF) | exact HBW.out))) : w.heap.size ≤ gb405)); have n4_ := zM ((Nat.le_trans HW0.out (by rw [hg]; exact (below_size (by repeat (first | (with_reducible first | exact HBW.out | apply bE | apply bD | apply bF) | exact HBW.out))) : w.heap.size ≤ gb405) : w0.heap.size ≤ gb405)); clear HBW; clear HB; have HBW := n0_; have HB := n1_; have BK405 := n2_; have GW405 := n3_; have GE405 := n4_; clear n0_ n1_ n2_ n3_ n4_; clear hb hbox hg))
     go_ret
     exact ⟨_, rfl, (show IsS82 w0 _ gb405 l0 0 x3_1 from ⟨_, _, by (with_reducible repeat (first | refine bA ?_ _ | refine bB ?_ | refine bC ?_ _)); exact BK405.out, GE405.out, ⟨HR0.out, HC0.out⟩⟩), by repeat (first | (with_reducible first | exact HB.out | apply bE | apply bD | apply bF | refine below_set ?_ GE405.out) | exact HB.out), by repeat (first | (with_reducible first | exact HBW.out | apply bE | apply bD | apply bF | refine below_set ?_ GW405.out) | exact HBW.out)⟩
   ·rw [if_neg c2] at H
    have c2b0 : decide (x4_1 < (l0.length : Int)) = false := decide_eq_false c2
    clear c2
    simp only [zI, zJ] at H
    obtain ⟨rfl, rfl, rfl⟩ := H
    go_wp2_with (first | ((with_reducible refine gate_dst (N := 31) rfl ?_); refine box_event ?hg (N := 31) ?hd (cs := #[.slice A0 l0.length c0, .int .i64 0, .int .i64 x3_1]) (t := 82) ?hr ?_; (case hd => rfl); (case hg => rfl); (case hr => first | (go_simp; done) | (go_simp; rfl)); intro gb406 hg w6 hbox hb; have n0_ := zM (bG HBW.out hb); have n1_ := zM (bG (by repeat (first | (with_reducible first | exact HB.out | apply bE | apply bD | apply bF) | exact HB.out)) hb); have n2_ := zM (hbox); have n3_ := zM ((by rw [hg]; exact (below_size (by repeat (first | (with_reducible first | exact HBW.out | apply bE | apply bD | apply bF) | exact HBW.out))) : w.heap.size ≤ gb406)); have n4_ := zM ((Nat.le_trans HW0.out (by rw [hg]; exact (below_size (by repeat (first | (with_reducible first | exact HBW.out | apply bE | apply bD | apply bF) | exact HBW.out))) : w.heap.size ≤ gb406) : w0.heap.size ≤ gb406)); clear HBW; clear HB; have HBW := n0_; have HB := n1_; have BK406 := n2_; have GW406 := n3_; have GE406 := n4_; clear n0_ n1_ n2_ n3_ n4_; clear hb hbox hg))
    go_ret
    exact ⟨_, rfl, (show IsS82 w0 _ gb406 l0 0 x3_1 from ⟨_, _, by (with_reducible repeat (first | refine bA ?_ _ | refine bB ?_ | refine bC ?_ _)); exact BK406.out, GE406.out, ⟨HR0.out, HC0.out⟩⟩), by repeat (first | (with_reducible first | exact HB.out | apply bE | apply bD | apply bF | refine below_set ?_ GE406.out) | exact HB.out), by repeat (first | (with_reducible first | exact HBW.out | apply bE | apply bD | apply bF | refine below_set ?_ GW406.out) | exact HBW.out)⟩

/-! ### spec_DrawPack: function 22 -/
def spec_DrawPack.f (k : Nat) (l0 : List Int) : Option (Int × Int × Int × Int × Int × Int × Int × ByteArray) := (spec_l1New.f k l0).bind fun bt408 => ((spec_l4DrawMsg.f k bt408.1 bt408.2.1 bt408.2.2).bind fun bt412 => (some (bt412.1, bt412.2.1, bt412.2.2.1, bt412.2.2.2.1, bt412.2.2.2.2.1, bt412.2.2.2.2.2.1, bt412.2.2.2.2.2.2.1, bt412.2.2.2.2.2.2.2.1)))
theorem spec_DrawPack.mono : ∀ a0 k, LeO (spec_DrawPack.f k a0) (spec_DrawPack.f (k + 1) a0) := by
 intro a0 k
 unfold spec_DrawPack.f
 repeat' first
   | (with_reducible exact spec_l1New.mono _ _)
   | (with_reducible exact spec_l4DrawMsg.mono _ _ _ _)
   | (with_reducible exact LeO.refl _)
   | (with_reducible exact LeO.none _)
   | (with_reducible refine LeO.ite ?_ ?_)
   | (with_reducible refine LeO.bind ?_ (fun _ => ?_))
   | exact spec_l1New.mono _ _
   | exact spec_l4DrawMsg.mono _ _ _ _
   | exact LeO.none _
   | refine LeO.ite ?_ ?_
   | refine LeO.bind ?_ (fun _ => ?_)
theorem spec_DrawPack.calls (k : Nat) (A0 : Option Addr) (c0 : Nat) (l0 : List Int) (r1 : Int) (r2 : Int) (r3 : Int) (r4 : Int) (r5 : Int) (r6 : Int) (r7 : Int) (r8 : ByteArray) (w : World) (hr0 : Kd.C (Kd.int .u8) w A0 l0.length l0) (hc0 : l0.length ≤ c0) (h : spec_DrawPack.f k l0 = some (r1, r2, r3, r4, r5, r6, r7, r8)) :
  Calls Try.prog 22 #[.slice A0 l0.length c0] w fun e w' => e = .returned (.agg #[.int .i64 r1, .int .i64 r2, .int .i64 r3, .int .i64 r4, .int .i64 r5, .int .i64 r6, .int .i64 r7, .string r8]) ∧ Below w.heap.size w w' := by
 have hu32 := Try.underlying32
 have HR0 := zM hr0
 have HC0 := zM hc0
 clear hr0 hc0
 have HB := zM (Below.refl w.heap.size w)
 have H : ((spec_l1New.f k l0).bind fun bt408 => ((spec_l4DrawMsg.f k bt408.1 bt408.2.1 bt408.2.2).bind fun bt412 => (some (bt412.1, bt412.2.1, bt412.2.2.1, bt412.2.2.2.1, bt412.2.2.2.2.1, bt412.2.2.2.2.2.1, bt412.2.2.2.2.2.2.1, bt412.2.2.2.2.2.2.2.1)))) = some (r1, r2, r3, r4, r5, r6, r7, r8) := h
 clear h
 replace H := zO H
 obtain ⟨⟨t408, t409, t410⟩, A20, H⟩ := H
 replace H : ((spec_l4DrawMsg.f k t408 t409 t410).bind fun bt412 => (some (bt412.1, bt412.2.1, bt412.2.2.1, bt412.2.2.2.1, bt412.2.2.2.2.1, bt412.2.2.2.2.2.1, bt412.2.2.2.2.2.2.1, bt412.2.2.2.2.2.2.2.1))) = some (r1, r2, r3, r4, r5, r6, r7, r8) := H
 have A2 := zM A20
 clear A20
 replace H := zO H
 obtain ⟨⟨t412, t413, t414, t415, t416, t417, t418, t419, t420, t421⟩, A30, H⟩ := H
 replace H : (some (t412, t413, t414, t415, t416, t417, t418, t419)) = some (r1, r2, r3, r4, r5, r6, r7, r8) := H
 have A3 := zM A30
 clear A30
 simp only [zI, zJ] at H
 obtain ⟨rfl, rfl, rfl, rfl, rfl, rfl, rfl, rfl⟩ := H
 go_enter Try.func22, Try.ntmps22
 go_wp2_with (first | ((with_reducible refine gate_dst (N := 2) rfl ?_); refine box_event ?hg (N := 2) ?hd (cs := #[.int .i64 0, .int .i64 0, .int .i64 0, .int .i64 0, .int .i64 0, .int .i64 0, .int .i64 0, .string (⟨#[]⟩ : ByteArray)]) (t := 32) ?hr ?_; (case hd => rfl); (case hg => rfl); (case hr => first | (go_simp; done) | (go_simp; rfl)); intro gb407 hg w4 hbox hb; have n0_ := zM (bG (by repeat (first | (with_reducible first | exact HB.out | apply bE | apply bD | apply bF) | exact HB.out)) hb); have n1_ := zM (hbox); have n2_ := zM ((by rw [hg]; exact (below_size (by repeat (first | (with_reducible first | exact HB.out | apply bE | apply bD | apply bF) | exact HB.out))) : w.heap.size ≤ gb407)); have n3_ := zM ((by rw [hg]; exact (below_size (by repeat (first | (with_reducible first | exact HB.out | apply bE | apply bD | apply bF) | exact HB.out))) : w.heap.size ≤ gb407)); clear HB; have HB := n0_; have BK407 := n1_; have GW407 := n2_; have GE407 := n3_; clear n0_ n1_ n2_ n3_; clear hb hbox hg) | ((with_reducible refine gate_callee (f := 53) rfl ?_); refine goesL_ (some 4) rfl rfl Try.func53 (by kernel_rfl) rfl #[.slice A0 l0.length c0] rfl (by (try simp only [List.map_toArray, List.map_cons, List.map_nil]); first | done | rfl) ?_; (with_reducible refine (spec_l1New.calls k _ _ l0 t408 t409 t410 w _ ?side1 ?side2 ?side3 A2.out).mono ?_); (case side1 => repeat (first | (with_reducible first | exact HB.out | apply bE | apply bD | apply bF | refine below_set ?_ GE407.out) | exact HB.out)); (case side2 => exact HR0.out); (case side3 => exact HC0.out); rintro e w5 ⟨g411, rfl, hi, hb, hb2⟩; refine ⟨_, rfl, ?_⟩; have n0_ := zM (blk_below (g := gb407) (o := .cells #[.int .i64 0, .int .i64 0, .int .i64 0, .int .i64 0, .int .i64 0, .int .i64 0, .int .i64 0, .string (⟨#[]⟩ : ByteArray)] 32 (0, 0)) (by (with_reducible repeat (first | refine bA ?_ _ | refine bB ?_ | refine bC ?_ _)); exact BK407.out) hb2); have n1_ := zM (hb); have n2_ := zM (hi); have n3_ := zM (IsS82.ne_blk hi (blk_below (g := gb407) (o := .cells #[.int .i64 0, .int .i64 0, .int .i64 0, .int .i64 0, .int .i64 0, .int .i64 0, .int .i64 0, .string (⟨#[]⟩ : ByteArray)] 32 (0, 0)) (by (with_reducible repeat (first | refine bA ?_ _ | refine bB ?_ | refine bC ?_ _)); exact BK407.out) hb2) (by decide)); have n4_ := zM (Ne.symm (IsS82.ne_blk hi (blk_below (g := gb407) (o := .cells #[.int .i64 0, .int .i64 0, .int .i64 0, .int .i64 0, .int .i64 0, .int .i64 0, .int .i64 0, .string (⟨#[]⟩ : ByteArray)] 32 (0, 0)) (by (with_reducible repeat (first | refine bA ?_ _ | refine bB ?_ | refine bC ?_ _)); exact BK407.out) hb2) (by decide))); clear BK407; clear HB; have BK407 := n0_; have HB := n1_; have HI411 := n2_; have NB411_407 := n3_; have NB407_411 := n4_; clear n0_ n1_ n2_ n3_ n4_; (try clear hb); (try clear hk); (try clear hi)) | ((with_reducible refine gate_callee (f := 52) rfl ?_); refine goesL_ (some 5) rfl rfl Try.func52 (by kernel_rfl) rfl #[.pointer (some ⟨g411, 0, none⟩)] rfl (by (try simp only [List.map_toArray, List.map_cons, List.map_nil]); first | done | rfl) ?_; (with_reducible refine (spec_l4DrawMsg.calls k g411 t408 t409 t410 t412 t413 t414 t415 t416 t417 t418 t419 t420 t421 w _ ?side1 ?side2 A3.out).mono ?_); (case side1 => repeat (first | (with_reducible first | exact HI411.out | apply IsS82.alloc | apply IsS82.drewN | apply IsS82.drew | apply IsS82.set_1 | apply IsS82.set_2 | refine IsS82.far ?_ NB411_407.out _) | exact HI411.out)); (case side2 => repeat (first | (with_reducible first | exact HB.out | apply bE | apply bD | apply bF | refine below_set ?_ (IsS82.ge HI411.out) | refine below_set ?_ GE407.out) | exact HB.out)); rintro e w6 ⟨rfl, hi, hb, hk⟩; refine ⟨_, rfl, ?_⟩; have n0_ := zM (KeepBut.blk hk (g' := gb407) (o := .cells #[.int .i64 0, .int .i64 0, .int .i64 0, .int .i64 0, .int .i64 0, .int .i64 0, .int .i64 0, .string (⟨#[]⟩ : ByteArray)] 32 (0, 0)) (by (with_reducible repeat (first | refine bA ?_ _ | refine bB ?_ | refine bC ?_ _)); exact BK407.out) NB407_411.out (by simp)); have n1_ := zM (hb); have n2_ := zM (hi); clear BK407; clear HB; clear HI411; have BK407 := n0_; have HB := n1_; have HI411 := n2_; clear n0_ n1_ n2_; (try clear hb); (try clear hk); (try clear hi); have hnb7 := NB407_411.out; have hnc7 := NB411_407.out; have hcz8_0 : w6.cell? ⟨gb407, 0, none⟩ = some (.int .i64 0) := (blk_cell BK407.out 0).trans rfl; have hcz8_1 : w6.cell? ⟨gb407, 1, none⟩ = some (.int .i64 0) := (blk_cell BK407.out 1).trans rfl; have hcz8_2 : w6.cell? ⟨gb407, 2, none⟩ = some (.int .i64 0) := (blk_cell BK407.out 2).trans rfl; have hcz8_3 : w6.cell? ⟨gb407, 3, none⟩ = some (.int .i64 0) := (blk_cell BK407.out 3).trans rfl; have hcz8_4 : w6.cell? ⟨gb407, 4, none⟩ = some (.int .i64 0) := (blk_cell BK407.out 4).trans rfl; have hcz8_5 : w6.cell? ⟨gb407, 5, none⟩ = some (.int .i64 0) := (blk_cell BK407.out 5).trans rfl; have hcz8_6 : w6.cell? ⟨gb407, 6, none⟩ = some (.int .i64 0) := (blk_cell BK407.out 6).trans rfl; have hcz8_7 : w6.cell? ⟨gb407, 7, none⟩ = some (.string (⟨#[]⟩ : ByteArray)) := (blk_cell BK407.out 7).trans rfl; have hfz8_0 := blk_frozen BK407.out 0; have hfz8_1 := blk_frozen BK407.out 1; have hfz8_2 := blk_frozen BK407.out 2; have hfz8_3 := blk_frozen BK407.out 3; have hfz8_4 := blk_frozen BK407.out 4; have hfz8_5 := blk_frozen BK407.out 5; have hfz8_6 := blk_frozen BK407.out 6; have hfz8_7 := blk_frozen BK407.out 7))
 refine bodyPost_ret (results_cell_row rfl _ _ gb407 32 #[.int .i64 t412, .int .i64 t413, .int .i64 t414, .int .i64 t415, .int .i64 t416, .int .i64 t417, .int .i64 t418, .string t419] (0, 0) _ rfl (by (with_reducible repeat (first | refine bA ?_ _ | refine bB ?_ | refine bC ?_ _)); refine bH (cs := #[.int .i64 t412, .int .i64 t413, .int .i64 t414, .int .i64 t415, .int .i64 t416, .int .i64 t417, .int .i64 t418, .string (⟨#[]⟩ : ByteArray)]) ?_ 7 _ rfl; (with_reducible repeat (first | refine bA ?_ _ | refine bB ?_ | refine bC ?_ _)); refine bH (cs := #[.int .i64 t412, .int .i64 t413, .int .i64 t414, .int .i64 t415, .int .i64 t416, .int .i64 t417, .int .i64 0, .string (⟨#[]⟩ : ByteArray)]) ?_ 6 _ rfl; (with_reducible repeat (first | refine bA ?_ _ | refine bB ?_ | refine bC ?_ _)); refine bH (cs := #[.int .i64 t412, .int .i64 t413, .int .i64 t414, .int .i64 t415, .int .i64 t416, .int .i64 0, .int .i64 0, .string (⟨#[]⟩ : ByteArray)]) ?_ 5 _ rfl; (with_reducible repeat (first | refine bA ?_ _ | refine bB ?_ | refine bC ?_ _)); refine bH (cs := #[.int .i64 t412, .int .i64 t413, .int .i64 t414, .int .i64 t415, .int .i64 0, .int .i64 0, .int .i64 0, .string (⟨#[]⟩ : ByteArray)]) ?_ 4 _ rfl; (with_reducible repeat (first | refine bA ?_ _ | refine bB ?_ | refine bC ?_ _)); refine bH (cs := #[.int .i64 t412, .int .i64 t413, .int .i64 t414, .int .i64 0, .int .i64 0, .int .i64 0, .int .i64 0, .string (⟨#[]⟩ : ByteArray)]) ?_ 3 _ rfl; (with_reducible repeat (first | refine bA ?_ _ | refine bB ?_ | refine bC ?_ _)); refine bH (cs := #[.int .i64 t412, .int .i64 t413, .int .i64 0, .int .i64 0, .int .i64 0, .int .i64 0, .int .i64 0, .string (⟨#[]⟩ : ByteArray)]) ?_ 2 _ rfl; (with_reducible repeat (first | refine bA ?_ _ | refine bB ?_ | refine bC ?_ _)); refine bH (cs := #[.int .i64 t412, .int .i64 0, .int .i64 0, .int .i64 0, .int .i64 0, .int .i64 0, .int .i64 0, .string (⟨#[]⟩ : ByteArray)]) ?_ 1 _ rfl; (with_reducible repeat (first | refine bA ?_ _ | refine bB ?_ | refine bC ?_ _)); refine bH (cs := #[.int .i64 0, .int .i64 0, .int .i64 0, .int .i64 0, .int .i64 0, .int .i64 0, .int .i64 0, .string (⟨#[]⟩ : ByteArray)]) ?_ 0 _ rfl; (with_reducible repeat (first | refine bA ?_ _ | refine bB ?_ | refine bC ?_ _)); exact BK407.out) Try.underlying32 rfl (by kernel_rfl)) rfl ?_
 exact ⟨by first | rfl | (simp [*, errW_none, errW_some] <;> rfl), by repeat (first | (with_reducible first | exact HB.out | apply bE | apply bD | apply bF | refine below_set ?_ (IsS82.ge HI411.out) | refine below_set ?_ GE407.out) | exact HB.out)⟩

/-! ### spec_l4Node: function 54 -/
def spec_l4Node.f (a0 : Int) : Option (Bool) := (spec_l1In.f a0 0 7).bind fun t422 => (some t422)
theorem spec_l4Node.calls (a0 : Int) (r : Bool) (w : World) (h : spec_l4Node.f a0 = some r) :
  Calls Try.prog 54 #[.int .i64 a0] w fun e w' => e = .returned (.bool r) ∧ Drawn0 w w' := by
 have H : ((spec_l1In.f a0 0 7).bind fun t422 => (some t422)) = some r := h
 clear h
 replace H := zO H
 obtain ⟨t422, A20, H⟩ := H
 replace H : (some t422) = some r := H
 have A2 := zM A20
 clear A20
 obtain rfl := Option.some.inj H
 simp only [zI, zJ] at H
 obtain ⟨rfl⟩ := H
 go_enter Try.func54, Try.ntmps54
 go_wp2_with (first | ((with_reducible refine gate_callee (f := 43) rfl ?_); refine goesL_ (some 4) rfl rfl Try.func43 (by kernel_rfl) rfl #[.int .i64 a0, .int .i64 0, .int .i64 7] rfl (by (try simp only [List.map_toArray, List.map_cons, List.map_nil]); first | done | rfl) ?_; (with_reducible refine (spec_l1In.calls a0 0 7 t422 _ A2.out).mono ?_); rintro e w' ⟨rfl, ⟨nd, rfl⟩⟩; refine ⟨_, rfl, ?_⟩))
 go_ret
 exact ⟨by first | rfl | (simp; done) | (simp [*]; done), by repeat (first | exact Drawn0.refl _ | apply Drawn0.step)⟩

end Go.Proofs.Ytpnfbekbkeiahaa.XFnOneBit
