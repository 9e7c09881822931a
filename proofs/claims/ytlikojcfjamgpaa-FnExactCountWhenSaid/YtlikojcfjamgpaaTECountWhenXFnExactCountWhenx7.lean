-- Written by a program of this claim's session (wip/xprint.py), out of the translation.
import Derived.Test.YtlikojcfjamgpaaTECountWhenXFnExactCountWhenx0
import Derived.Test.YtlikojcfjamgpaaTECountWhenXFnExactCountWhenx5
import Derived.Test.YtlikojcfjamgpaaTECountWhenXFnExactCountWhenx6
namespace Go.Proofs.Ytlikojcfjamgpaa.XFnExactCountWhen
open Go.RowKit Go.Proofs.YtlikojcfjamgpaaW.PrintWords Go.Proofs.YtlikojcfjamgpaaW.PrintLast Go.Proofs.YtlikojcfjamgpaaW.PrintMore
open Go.Proofs.YtlikojcfjamgpaaW.PrintWords renaming blk_drewN → bA, blk_drew → bB, blk_alloc → bC, pw_below_drewN → bD, below_alloc → bE, below_drew1 → bF, Aside0.mk → zM, below_step → bG, blk_put → bH
open List renaming setIfInBounds_toArray → zS, set_cons_zero → z0, set_cons_succ → z1
attribute [local go_sem] max2_int min2_int max_two min_two max_three min_three max_four min_four
set_option linter.unusedVariables false
set_option linter.unusedSimpArgs false
set_option maxHeartbeats 8000000
set_option maxRecDepth 100000

/-! ### impl_between_60_61_62: function 59 -/
mutual
def impl_between_60_61_62.j0:Nat → List (S38) → Int → Bool → Int → Int → Option (Int × Int × Bool)
 | 0,_,_,_,_,_=>none
 | k + 1,x1,x2,x42,x220000,x220001=>if x42 = true then (some (0,0,false)) else (impl_between_60_61_62.j1 k x1 x2 x220000 x220001)
def impl_between_60_61_62.j1:Nat → List (S38) → Int → Int → Int → Option (Int × Int × Bool)
 | 0,_,_,_,_=>none
 | k + 1,x1,x2,x220000,x220001=>impl_between_60_61_62.l0 k x1 x2 0 x220000 x220001
def impl_between_60_61_62.j3:Nat → List (S38) → Int → Int → Int → Int → Option (Int × Int × Bool)
 | 0,_,_,_,_,_=>none
 | k + 1,x1,x2,x14,x220000,x220001=>if 0 ≤ x14 then (if x14 < (x1.length:Int) then ((impl_timeOf.f ((rd_T38 x1 x14).f0) ((rd_T38 x1 x14).f1)).bind fun t230=>((impl_counts.f x220000 x220001 (wrap64 (x2 - t230))).bind fun bt231=>(if bt231.2.2 = true then (impl_between_60_61_62.j4 k x1 x2 x14 x220000 x220001 bt231.1 bt231.2.1) else (some (0,0,false))))) else (none)) else (none)
def impl_between_60_61_62.j4:Nat → List (S38) → Int → Int → Int → Int → Int → Int → Option (Int × Int × Bool)
 | 0,_,_,_,_,_,_,_=>none
 | k + 1,x1,x2,x14,x220000,x220001,x235000,x235001=>if 0 ≤ x14 then (if x14 < (x1.length:Int) then ((impl_countOf.f ((rd_T38 x1 x14).f0) ((rd_T38 x1 x14).f1)).bind fun t236=>((impl_countOf.f ((rd_T38 x1 x14).f0) ((rd_T38 x1 x14).f1)).bind fun t238=>(if (wrap64 (x14 + 1)) < (x1.length:Int) then (if 0 ≤ (wrap64 (x14 + 1)) then ((impl_timeOf.f ((rd_T38 x1 (wrap64 (x14 + 1))).f0) ((rd_T38 x1 (wrap64 (x14 + 1))).f1)).bind fun t242=>((impl_counts.f x220000 x220001 (wrap64 (t242 - x2))).bind fun bt243=>(if bt243.2.2 = true then (impl_between_60_61_62.j5 k (wrap64 (t236 + x235000)) (wrap64 (t238 + x235001)) ((rd_T38 x1 (wrap64 (x14 + 1))).f0) ((rd_T38 x1 (wrap64 (x14 + 1))).f1) bt243.1 bt243.2.1) else (some (0,0,false))))) else (none)) else (impl_between_60_61_62.j6 k (wrap64 (t236 + x235000)) (wrap64 (t238 + x235001)))))) else (none)) else (none)
def impl_between_60_61_62.j6:Nat → Int → Int → Option (Int × Int × Bool)
 | 0,_,_=>none
 | k + 1,x240000,x240001=>if x240000 > x240001 then (some (0,0,false)) else (some (x240000,x240001,true))
def impl_between_60_61_62.j5:Nat → Int → Int → Int → Int → Int → Int → Option (Int × Int × Bool)
 | 0,_,_,_,_,_,_=>none
 | k + 1,x240000,x240001,x242000,x242001,x247000,x247001=>(impl_countOf.f x242000 x242001).bind fun t247=>((impl_countOf.f x242000 x242001).bind fun t248=>(impl_between_60_61_62.j6 k (mx x240000 (wrap64 (t247 - x247001))) (mn x240001 (wrap64 (t248 - x247000)))))
def impl_between_60_61_62.l0:Nat → List (S38) → Int → Int → Int → Int → Option (Int × Int × Bool)
 | 0,_,_,_,_,_=>none
 | k + 1,x1,x2,x14,x220000,x220001=>if (wrap64 (x14 + 1)) < (x1.length:Int) then (if 0 ≤ (wrap64 (x14 + 1)) then ((impl_timeOf.f ((rd_T38 x1 (wrap64 (x14 + 1))).f0) ((rd_T38 x1 (wrap64 (x14 + 1))).f1)).bind fun t228=>(if t228 ≤ x2 then (impl_between_60_61_62.l0 k x1 x2 (wrap64 (x14 + 1)) x220000 x220001) else (impl_between_60_61_62.j3 k x1 x2 x14 x220000 x220001))) else (none)) else (impl_between_60_61_62.j3 k x1 x2 x14 x220000 x220001)
end
def impl_between_60_61_62.f (k:Nat) (a0_0:Int) (a0_1:Int) (l1:List (S38)) (a2:Int)   :Option (Int × Int × Bool):=(impl_MarksOk.f k a0_0 a0_1 l1).bind fun t221=>(if t221 = true then (if 0 < (l1.length:Int) then ((impl_timeOf.f ((rd_T38 l1 0).f0) ((rd_T38 l1 0).f1)).bind fun t223=>(if 0 ≤ (wrap64 ((l1.length:Int) - 1)) then (if (wrap64 ((l1.length:Int) - 1)) < (l1.length:Int) then ((impl_timeOf.f ((rd_T38 l1 (wrap64 ((l1.length:Int) - 1))).f0) ((rd_T38 l1 (wrap64 ((l1.length:Int) - 1))).f1)).bind fun t225=>((impl_in.f a2 t223 t225).bind fun t226=>(impl_between_60_61_62.j0 k l1 a2 (!t226) a0_0 a0_1))) else (none)) else (none))) else (none)) else (impl_between_60_61_62.j0 k l1 a2 true a0_0 a0_1))
theorem impl_between_60_61_62.mono_l:∀ k,(∀ y0 y1 y2 y3 y4,LeO (impl_between_60_61_62.j0 k y0 y1 y2 y3 y4) (impl_between_60_61_62.j0 (k + 1) y0 y1 y2 y3 y4)) ∧ (∀ y0 y1 y2 y3,LeO (impl_between_60_61_62.j1 k y0 y1 y2 y3) (impl_between_60_61_62.j1 (k + 1) y0 y1 y2 y3)) ∧ (∀ y0 y1 y2 y3 y4,LeO (impl_between_60_61_62.j3 k y0 y1 y2 y3 y4) (impl_between_60_61_62.j3 (k + 1) y0 y1 y2 y3 y4)) ∧ (∀ y0 y1 y2 y3 y4 y5 y6,LeO (impl_between_60_61_62.j4 k y0 y1 y2 y3 y4 y5 y6) (impl_between_60_61_62.j4 (k + 1) y0 y1 y2 y3 y4 y5 y6)) ∧ (∀ y0 y1,LeO (impl_between_60_61_62.j6 k y0 y1) (impl_between_60_61_62.j6 (k + 1) y0 y1)) ∧ (∀ y0 y1 y2 y3 y4 y5,LeO (impl_between_60_61_62.j5 k y0 y1 y2 y3 y4 y5) (impl_between_60_61_62.j5 (k + 1) y0 y1 y2 y3 y4 y5)) ∧ (∀ y0 y1 y2 y3 y4,LeO (impl_between_60_61_62.l0 k y0 y1 y2 y3 y4) (impl_between_60_61_62.l0 (k + 1) y0 y1 y2 y3 y4))
 | 0=>⟨fun _ _ _ _ _ r h=>by simp [impl_between_60_61_62.j0] at h,fun _ _ _ _ r h=>by simp [impl_between_60_61_62.j1] at h,fun _ _ _ _ _ r h=>by simp [impl_between_60_61_62.j3] at h,fun _ _ _ _ _ _ _ r h=>by simp [impl_between_60_61_62.j4] at h,fun _ _ r h=>by simp [impl_between_60_61_62.j6] at h,fun _ _ _ _ _ _ r h=>by simp [impl_between_60_61_62.j5] at h,fun _ _ _ _ _ r h=>by simp [impl_between_60_61_62.l0] at h⟩
 | k + 1=>by
  obtain ⟨ih0,ih1,ih2,ih3,ih4,ih5,ih6⟩:=impl_between_60_61_62.mono_l k
  refine ⟨?_,?_,?_,?_,?_,?_,?_⟩
  ·intro y0 y1 y2 y3 y4
   unfold impl_between_60_61_62.j0
   repeat' first
   | (with_reducible exact ih0 _ _ _ _ _)
   | (with_reducible exact ih1 _ _ _ _)
   | (with_reducible exact ih2 _ _ _ _ _)
   | (with_reducible exact ih3 _ _ _ _ _ _ _)
   | (with_reducible exact ih4 _ _)
   | (with_reducible exact ih5 _ _ _ _ _ _)
   | (with_reducible exact ih6 _ _ _ _ _)
   | (with_reducible exact impl_MarksOk.mono _ _ _ _)
   | (with_reducible exact LeO.refl _)
   | (with_reducible exact LeO.none _)
   | (with_reducible refine LeO.ite ?_ ?_)
   | (with_reducible refine LeO.bind ?_ (fun _=>?_))
   | exact ih0 _ _ _ _ _
   | exact ih1 _ _ _ _
   | exact ih2 _ _ _ _ _
   | exact ih3 _ _ _ _ _ _ _
   | exact ih4 _ _
   | exact ih5 _ _ _ _ _ _
   | exact ih6 _ _ _ _ _
   | exact impl_MarksOk.mono _ _ _ _
   | exact LeO.none _
   | refine LeO.ite ?_ ?_
   | refine LeO.bind ?_ (fun _=>?_)
  ·intro y0 y1 y2 y3
   unfold impl_between_60_61_62.j1
   repeat' first
   | (with_reducible exact ih0 _ _ _ _ _)
   | (with_reducible exact ih1 _ _ _ _)
   | (with_reducible exact ih2 _ _ _ _ _)
   | (with_reducible exact ih3 _ _ _ _ _ _ _)
   | (with_reducible exact ih4 _ _)
   | (with_reducible exact ih5 _ _ _ _ _ _)
   | (with_reducible exact ih6 _ _ _ _ _)
   | (with_reducible exact impl_MarksOk.mono _ _ _ _)
   | (with_reducible exact LeO.refl _)
   | (with_reducible exact LeO.none _)
   | (with_reducible refine LeO.ite ?_ ?_)
   | (with_reducible refine LeO.bind ?_ (fun _=>?_))
   | exact ih0 _ _ _ _ _
   | exact ih1 _ _ _ _
   | exact ih2 _ _ _ _ _
   | exact ih3 _ _ _ _ _ _ _
   | exact ih4 _ _
   | exact ih5 _ _ _ _ _ _
   | exact ih6 _ _ _ _ _
   | exact impl_MarksOk.mono _ _ _ _
   | exact LeO.none _
   | refine LeO.ite ?_ ?_
   | refine LeO.bind ?_ (fun _=>?_)
  ·intro y0 y1 y2 y3 y4
   unfold impl_between_60_61_62.j3
   repeat' first
   | (with_reducible exact ih0 _ _ _ _ _)
   | (with_reducible exact ih1 _ _ _ _)
   | (with_reducible exact ih2 _ _ _ _ _)
   | (with_reducible exact ih3 _ _ _ _ _ _ _)
   | (with_reducible exact ih4 _ _)
   | (with_reducible exact ih5 _ _ _ _ _ _)
   | (with_reducible exact ih6 _ _ _ _ _)
   | (with_reducible exact impl_MarksOk.mono _ _ _ _)
   | (with_reducible exact LeO.refl _)
   | (with_reducible exact LeO.none _)
   | (with_reducible refine LeO.ite ?_ ?_)
   | (with_reducible refine LeO.bind ?_ (fun _=>?_))
   | exact ih0 _ _ _ _ _
   | exact ih1 _ _ _ _
   | exact ih2 _ _ _ _ _
   | exact ih3 _ _ _ _ _ _ _
   | exact ih4 _ _
   | exact ih5 _ _ _ _ _ _
   | exact ih6 _ _ _ _ _
   | exact impl_MarksOk.mono _ _ _ _
   | exact LeO.none _
   | refine LeO.ite ?_ ?_
   | refine LeO.bind ?_ (fun _=>?_)
  ·intro y0 y1 y2 y3 y4 y5 y6
   unfold impl_between_60_61_62.j4
   repeat' first
   | (with_reducible exact ih0 _ _ _ _ _)
   | (with_reducible exact ih1 _ _ _ _)
   | (with_reducible exact ih2 _ _ _ _ _)
   | (with_reducible exact ih3 _ _ _ _ _ _ _)
   | (with_reducible exact ih4 _ _)
   | (with_reducible exact ih5 _ _ _ _ _ _)
   | (with_reducible exact ih6 _ _ _ _ _)
   | (with_reducible exact impl_MarksOk.mono _ _ _ _)
   | (with_reducible exact LeO.refl _)
   | (with_reducible exact LeO.none _)
   | (with_reducible refine LeO.ite ?_ ?_)
   | (with_reducible refine LeO.bind ?_ (fun _=>?_))
   | exact ih0 _ _ _ _ _
   | exact ih1 _ _ _ _
   | exact ih2 _ _ _ _ _
   | exact ih3 _ _ _ _ _ _ _
   | exact ih4 _ _
   | exact ih5 _ _ _ _ _ _
   | exact ih6 _ _ _ _ _
   | exact impl_MarksOk.mono _ _ _ _
   | exact LeO.none _
   | refine LeO.ite ?_ ?_
   | refine LeO.bind ?_ (fun _=>?_)
  ·intro y0 y1
   unfold impl_between_60_61_62.j6
   repeat' first
   | (with_reducible exact ih0 _ _ _ _ _)
   | (with_reducible exact ih1 _ _ _ _)
   | (with_reducible exact ih2 _ _ _ _ _)
   | (with_reducible exact ih3 _ _ _ _ _ _ _)
   | (with_reducible exact ih4 _ _)
   | (with_reducible exact ih5 _ _ _ _ _ _)
   | (with_reducible exact ih6 _ _ _ _ _)
   | (with_reducible exact impl_MarksOk.mono _ _ _ _)
   | (with_reducible exact LeO.refl _)
   | (with_reducible exact LeO.none _)
   | (with_reducible refine LeO.ite ?_ ?_)
   | (with_reducible refine LeO.bind ?_ (fun _=>?_))
   | exact ih0 _ _ _ _ _
   | exact ih1 _ _ _ _
   | exact ih2 _ _ _ _ _
   | exact ih3 _ _ _ _ _ _ _
   | exact ih4 _ _
   | exact ih5 _ _ _ _ _ _
   | exact ih6 _ _ _ _ _
   | exact impl_MarksOk.mono _ _ _ _
   | exact LeO.none _
   | refine LeO.ite ?_ ?_
   | refine LeO.bind ?_ (fun _=>?_)
  ·intro y0 y1 y2 y3 y4 y5
   unfold impl_between_60_61_62.j5
   repeat' first
   | (with_reducible exact ih0 _ _ _ _ _)
   | (with_reducible exact ih1 _ _ _ _)
   | (with_reducible exact ih2 _ _ _ _ _)
   | (with_reducible exact ih3 _ _ _ _ _ _ _)
   | (with_reducible exact ih4 _ _)
   | (with_reducible exact ih5 _ _ _ _ _ _)
   | (with_reducible exact ih6 _ _ _ _ _)
   | (with_reducible exact impl_MarksOk.mono _ _ _ _)
   | (with_reducible exact LeO.refl _)
   | (with_reducible exact LeO.none _)
   | (with_reducible refine LeO.ite ?_ ?_)
   | (with_reducible refine LeO.bind ?_ (fun _=>?_))
   | exact ih0 _ _ _ _ _
   | exact ih1 _ _ _ _
   | exact ih2 _ _ _ _ _
   | exact ih3 _ _ _ _ _ _ _
   | exact ih4 _ _
   | exact ih5 _ _ _ _ _ _
   | exact ih6 _ _ _ _ _
   | exact impl_MarksOk.mono _ _ _ _
   | exact LeO.none _
   | refine LeO.ite ?_ ?_
   | refine LeO.bind ?_ (fun _=>?_)
  ·intro y0 y1 y2 y3 y4
   unfold impl_between_60_61_62.l0
   repeat' first
   | (with_reducible exact ih0 _ _ _ _ _)
   | (with_reducible exact ih1 _ _ _ _)
   | (with_reducible exact ih2 _ _ _ _ _)
   | (with_reducible exact ih3 _ _ _ _ _ _ _)
   | (with_reducible exact ih4 _ _)
   | (with_reducible exact ih5 _ _ _ _ _ _)
   | (with_reducible exact ih6 _ _ _ _ _)
   | (with_reducible exact impl_MarksOk.mono _ _ _ _)
   | (with_reducible exact LeO.refl _)
   | (with_reducible exact LeO.none _)
   | (with_reducible refine LeO.ite ?_ ?_)
   | (with_reducible refine LeO.bind ?_ (fun _=>?_))
   | exact ih0 _ _ _ _ _
   | exact ih1 _ _ _ _
   | exact ih2 _ _ _ _ _
   | exact ih3 _ _ _ _ _ _ _
   | exact ih4 _ _
   | exact ih5 _ _ _ _ _ _
   | exact ih6 _ _ _ _ _
   | exact impl_MarksOk.mono _ _ _ _
   | exact LeO.none _
   | refine LeO.ite ?_ ?_
   | refine LeO.bind ?_ (fun _=>?_)
theorem impl_between_60_61_62.mono:∀ a0 a1 a2 a3 k,LeO (impl_between_60_61_62.f k a0 a1 a2 a3) (impl_between_60_61_62.f (k + 1) a0 a1 a2 a3):=by
 intro a0 a1 a2 a3 k
 obtain ⟨ih0,ih1,ih2,ih3,ih4,ih5,ih6⟩:=impl_between_60_61_62.mono_l k
 unfold impl_between_60_61_62.f
 repeat' first
   | (with_reducible exact ih0 _ _ _ _ _)
   | (with_reducible exact ih1 _ _ _ _)
   | (with_reducible exact ih2 _ _ _ _ _)
   | (with_reducible exact ih3 _ _ _ _ _ _ _)
   | (with_reducible exact ih4 _ _)
   | (with_reducible exact ih5 _ _ _ _ _ _)
   | (with_reducible exact ih6 _ _ _ _ _)
   | (with_reducible exact impl_MarksOk.mono _ _ _ _)
   | (with_reducible exact LeO.refl _)
   | (with_reducible exact LeO.none _)
   | (with_reducible refine LeO.ite ?_ ?_)
   | (with_reducible refine LeO.bind ?_ (fun _=>?_))
   | exact ih0 _ _ _ _ _
   | exact ih1 _ _ _ _
   | exact ih2 _ _ _ _ _
   | exact ih3 _ _ _ _ _ _ _
   | exact ih4 _ _
   | exact ih5 _ _ _ _ _ _
   | exact ih6 _ _ _ _ _
   | exact impl_MarksOk.mono _ _ _ _
   | exact LeO.none _
   | refine LeO.ite ?_ ?_
   | refine LeO.bind ?_ (fun _=>?_)
def impl_between_60_61_62.T1:Bool × List (List Nat × List Nat):=(true,[([],[]),([],[]),([0,1],[0,1]),([2],[2]),([3,2],[3]),([4],[4]),([4],[4]),([4],[4]),([7,4],[4,7]),([8,4],[4,8]),([6,9,4,4],[4,6,9]),([4],[4]),([4],[4]),([4],[4]),([13,4],[4,13]),([14,4],[4,14]),([12,15,4],[4,12,15]),([16,4],[4,16]),([11,17,10,4],[4,11,17]),([5,10,18,18,4],[4,5,10,18]),([19,4],[4,19]),([4,20],[4,20])])
def impl_between_60_61_62.B1:List Nat:=[0,0,3,7,15,31,31,31,159,415,991,31,31,31,8223,24607,61471,127007,262111,524287,1048575,2097151]
theorem impl_between_60_61_62.tab1:rtab .any (opsOf Try.f59 1) = impl_between_60_61_62.T1:=by kernel_rfl
theorem impl_between_60_61_62.bits1:waitsOk impl_between_60_61_62.T1.2 impl_between_60_61_62.B1 = true:=by kernel_rfl
def impl_between_60_61_62.T6:Bool × List (List Nat × List Nat):=(true,[([],[]),([],[]),([],[]),([],[]),([],[]),([],[]),([4,5],[4,5]),([6],[6]),([3,7],[3,7]),([2,8],[2,8]),([0,1,9,8],[0,1,9]),([10],[10]),([11],[11]),([11],[11]),([],[]),([14,12,10,0,1,2,3,4,5,6,7,8,9,10,11,12,14],[12,14]),([13,15,0,1,2,3,4,5,6,7,8,9,10,11,12,13,14,15],[13])])
def impl_between_60_61_62.B6:List Nat:=[0,0,0,0,0,0,48,112,248,508,1023,2047,4095,4095,0,24575,65535]
theorem impl_between_60_61_62.tab6:rtab .any (opsOf Try.f59 6) = impl_between_60_61_62.T6:=by kernel_rfl
theorem impl_between_60_61_62.bits6:waitsOk impl_between_60_61_62.T6.2 impl_between_60_61_62.B6 = true:=by kernel_rfl
def impl_between_60_61_62.T9:Bool × List (List Nat × List Nat):=(true,[([],[]),([],[]),([],[]),([1,2],[1,2]),([3],[3]),([0,4],[0,4]),([],[]),([6],[6]),([5,7],[5,7]),([],[]),([],[]),([],[]),([10,11],[10,11]),([12],[12]),([9,13,5],[9,13]),([],[]),([15],[15]),([14,16],[14,16]),([8,17],[8,17]),([],[]),([19,18,14,0,1,2,3,4,5,6,7,8,9,10,11,12,13,14,15,16,17,18,19],[18,19])])
def impl_between_60_61_62.B9:List Nat:=[0,0,0,6,14,31,0,64,255,0,0,0,3072,7168,15935,0,32768,130623,262143,0,1048575]
theorem impl_between_60_61_62.tab9:rtab .any (opsOf Try.f59 9) = impl_between_60_61_62.T9:=by kernel_rfl
theorem impl_between_60_61_62.bits9:waitsOk impl_between_60_61_62.T9.2 impl_between_60_61_62.B9 = true:=by kernel_rfl
def impl_between_60_61_62.T12:Bool × List (List Nat × List Nat):=(true,[([],[]),([],[]),([],[]),([],[]),([2,3],[2,3]),([],[]),([4,5],[4,5]),([0,1,6,4],[0,1,6]),([7],[7]),([8],[8]),([8],[8]),([],[]),([11,9,7,0,1,2,3,4,5,6,7,8,9,11],[9,11]),([10,12,0,1,2,3,4,5,6,7,8,9,10,11,12],[10])])
def impl_between_60_61_62.B12:List Nat:=[0,0,0,0,12,0,60,127,255,511,511,0,3071,8191]
theorem impl_between_60_61_62.tab12:rtab .any (opsOf Try.f59 12) = impl_between_60_61_62.T12:=by kernel_rfl
theorem impl_between_60_61_62.bits12:waitsOk impl_between_60_61_62.T12.2 impl_between_60_61_62.B12 = true:=by kernel_rfl
def impl_between_60_61_62.T15:Bool × List (List Nat × List Nat):=(true,[([],[]),([0],[0]),([],[]),([],[]),([2,3],[2,3]),([],[]),([5],[5]),([4,6],[4,6]),([1,7],[1,7]),([],[]),([9],[9]),([],[]),([],[]),([11,12,4],[11,12]),([],[]),([14],[14]),([13,15],[13,15]),([10,16],[10,16]),([8,17],[8,17]),([18,13,0,1,2,3,4,5,6,7,8,9,10,11,12,13,14,15,16,17,18],[18])])
def impl_between_60_61_62.B15:List Nat:=[0,1,0,0,12,0,32,124,255,0,512,0,0,6172,0,16384,63516,130588,262143,524287]
theorem impl_between_60_61_62.tab15:rtab .any (opsOf Try.f59 15) = impl_between_60_61_62.T15:=by kernel_rfl
theorem impl_between_60_61_62.bits15:waitsOk impl_between_60_61_62.T15.2 impl_between_60_61_62.B15 = true:=by kernel_rfl
theorem impl_between_60_61_62.calls (k:Nat) (a0_0:Int) (a0_1:Int) (A1:Option Addr) (c1:Nat) (l1:List (S38)) (a2:Int)    (r1:Int) (r2:Int) (r3:Bool) (w:World) (hr1:Kd.C k38 w A1 l1.length l1) (hc1:l1.length ≤ c1) (h:impl_between_60_61_62.f k a0_0 a0_1 l1 a2 = some (r1,r2,r3)) :
  Calls Try.prog 59 #[.agg #[.int .i64 a0_0,.int .i64 a0_1],.slice A1 l1.length c1,.int .i64 a2,.func (.func 60) #[] #[],.func (.func 61) #[] #[],.func (.func 62) #[] #[]] w fun e w'=>e = .returned (.tuple #[.agg #[.int .i64 r1,.int .i64 r2],.bool r3]) ∧ Below w.heap.size w w':=by
 have hu27:=Try.underlying27
 have hu40:=Try.underlying40
 have hu38:=Try.underlying38
 have HR1:=zM hr1
 have HC1:=zM hc1
 clear hr1 hc1
 have HB:=zM (Below.refl w.heap.size w)
 have H:((impl_MarksOk.f k a0_0 a0_1 l1).bind fun t221=>(if t221 = true then (if 0 < (l1.length:Int) then ((impl_timeOf.f ((rd_T38 l1 0).f0) ((rd_T38 l1 0).f1)).bind fun t223=>(if 0 ≤ (wrap64 ((l1.length:Int) - 1)) then (if (wrap64 ((l1.length:Int) - 1)) < (l1.length:Int) then ((impl_timeOf.f ((rd_T38 l1 (wrap64 ((l1.length:Int) - 1))).f0) ((rd_T38 l1 (wrap64 ((l1.length:Int) - 1))).f1)).bind fun t225=>((impl_in.f a2 t223 t225).bind fun t226=>(impl_between_60_61_62.j0 k l1 a2 (!t226) a0_0 a0_1))) else (none)) else (none))) else (none)) else (impl_between_60_61_62.j0 k l1 a2 true a0_0 a0_1))) = some (r1,r2,r3):=h
 clear h
 have HC7:=zM H
 clear H
 go_enter Try.func59,Try.ntmps59
 go_upto_region 1 with (first|((with_reducible refine gate_dst (N:=6) rfl ?_);(try (refine gate_guard (by rfl) ?_;dsimp only));refine box_event ?hg (N:=6) ?hd (cs:=#[.int .i64 a0_0,.int .i64 a0_1]) (t:=27) ?hr ?_;(case hd=>rfl);(case hg=>rfl);(case hr=>first|(go_simp;done)|(go_simp;rfl));intro gb219 hg w8 hbox hb;have n0_:=zM (bG (by repeat (first|(with_reducible first|exact HB.out|apply bE|apply bD|apply bF)|exact HB.out)) hb);have n1_:=zM (hbox);have n2_:=zM ((by rw [hg];exact (below_size (by repeat (first|(with_reducible first|exact HB.out|apply bE|apply bD|apply bF)|exact HB.out))):w.heap.size ≤ gb219));have n3_:=zM ((by rw [hg];exact (below_size (by repeat (first|(with_reducible first|exact HB.out|apply bE|apply bD|apply bF)|exact HB.out))):w.heap.size ≤ gb219));clear HB;have HB:=n0_;have BK219:=n1_;have GW219:=n2_;have GE219:=n3_;clear n0_ n1_ n2_ n3_;clear hb hbox hg)|((with_reducible refine gate_dst (N:=12) rfl ?_);(try (refine gate_guard (by rfl) ?_;dsimp only));refine box_event ?hg (N:=12) ?hd (cs:=#[.int .i64 0,.int .i64 0]) (t:=40) ?hr ?_;(case hd=>rfl);(case hg=>rfl);(case hr=>first|(go_simp;done)|(go_simp;rfl));intro gb220 hg w9 hbox hb;have n0_:=zM (blk_below (g:=gb219) (o:=.cells #[.int .i64 a0_0,.int .i64 a0_1] 27 (0,0)) (by (with_reducible repeat (first|refine bA ?_ _|refine bB ?_|refine bC ?_ _));exact BK219.out) hb);have n1_:=zM (bG (by repeat (first|(with_reducible first|exact HB.out|apply bE|apply bD|apply bF|refine below_set ?_ GE219.out)|exact HB.out)) hb);have n2_:=zM (hbox);have n3_:=zM ((by rw [hg];exact (below_size (by repeat (first|(with_reducible first|exact HB.out|apply bE|apply bD|apply bF|refine below_set ?_ GE219.out)|exact HB.out))):w.heap.size ≤ gb220));have n4_:=zM ((by rw [hg];exact (below_size (by repeat (first|(with_reducible first|exact HB.out|apply bE|apply bD|apply bF|refine below_set ?_ GE219.out)|exact HB.out))):w.heap.size ≤ gb220));have n5_:=zM ((by rw [hg];exact Nat.ne_of_lt (blk_lt (g:=gb219) (o:=.cells #[.int .i64 a0_0,.int .i64 a0_1] 27 (0,0)) (by (with_reducible repeat (first|refine bA ?_ _|refine bB ?_|refine bC ?_ _));exact BK219.out)):gb219 ≠ gb220));have n6_:=zM ((by rw [hg];exact Nat.ne_of_gt (blk_lt (g:=gb219) (o:=.cells #[.int .i64 a0_0,.int .i64 a0_1] 27 (0,0)) (by (with_reducible repeat (first|refine bA ?_ _|refine bB ?_|refine bC ?_ _));exact BK219.out)):gb220 ≠ gb219));clear BK219;clear HB;have BK219:=n0_;have HB:=n1_;have BK220:=n2_;have GW220:=n3_;have GE220:=n4_;have NB219_220:=n5_;have NB220_219:=n6_;clear n0_ n1_ n2_ n3_ n4_ n5_ n6_;clear hb hbox hg))
 (try simp only [Act.put,zS,z0,z1])
 go_cut [42] (fun v42 wc=>∃ (kq:Nat) (x42_6:Bool),v42 = .bool x42_6 ∧ Aside0 (impl_between_60_61_62.j0 kq l1 a2 x42_6 a0_0 a0_1 = some (r1,r2,r3)) ∧ Aside0 (kq ≤ k) ∧ Aside0 (wc.heap[gb219]? = some (.cells #[.int .i64 a0_0,.int .i64 a0_1] 27 (0,0))) ∧ Aside0 (wc.heap[gb220]? = some (.cells #[.int .i64 0,.int .i64 0] 40 (0,0))) ∧ Aside0 (Below w.heap.size w wc))
 case first =>
  have H:=HC7.out
  clear HC7
  replace H:=zO H
  obtain ⟨t221,A100,H⟩:=H
  replace H:(if t221 = true then (if 0 < (l1.length:Int) then ((impl_timeOf.f ((rd_T38 l1 0).f0) ((rd_T38 l1 0).f1)).bind fun t223=>(if 0 ≤ (wrap64 ((l1.length:Int) - 1)) then (if (wrap64 ((l1.length:Int) - 1)) < (l1.length:Int) then ((impl_timeOf.f ((rd_T38 l1 (wrap64 ((l1.length:Int) - 1))).f0) ((rd_T38 l1 (wrap64 ((l1.length:Int) - 1))).f1)).bind fun t225=>((impl_in.f a2 t223 t225).bind fun t226=>(impl_between_60_61_62.j0 k l1 a2 (!t226) a0_0 a0_1))) else (none)) else (none))) else (none)) else (impl_between_60_61_62.j0 k l1 a2 true a0_0 a0_1)) = some (r1,r2,r3):=H
  have A10:=zM A100
  clear A100
  by_cases c11:t221 = true
  ·subst c11
   have H1:(if 0 < (l1.length:Int) then ((impl_timeOf.f ((rd_T38 l1 0).f0) ((rd_T38 l1 0).f1)).bind fun t223=>(if 0 ≤ (wrap64 ((l1.length:Int) - 1)) then (if (wrap64 ((l1.length:Int) - 1)) < (l1.length:Int) then ((impl_timeOf.f ((rd_T38 l1 (wrap64 ((l1.length:Int) - 1))).f0) ((rd_T38 l1 (wrap64 ((l1.length:Int) - 1))).f1)).bind fun t225=>((impl_in.f a2 t223 t225).bind fun t226=>(impl_between_60_61_62.j0 k l1 a2 (!t226) a0_0 a0_1))) else (none)) else (none))) else (none)) = some (r1,r2,r3):=by rw [if_pos rfl] at H;exact H
   clear H
   have H:=H1
   clear H1
   by_cases c12:0 < (l1.length:Int)
   ·rw [if_pos c12] at H
    have c12b0:decide (0 < (l1.length:Int)) = true:=decide_eq_true c12
    have c12b1:decide (0 < l1.length) = true:=decide_eq_true (by omega)
    clear c12
    (first|rw [c12b0]|(simp only [i64_w,i32_w];rw [c12b0])|skip)
    replace H:=zO H
    obtain ⟨t223,A130,H⟩:=H
    replace H:(if 0 ≤ (wrap64 ((l1.length:Int) - 1)) then (if (wrap64 ((l1.length:Int) - 1)) < (l1.length:Int) then ((impl_timeOf.f ((rd_T38 l1 (wrap64 ((l1.length:Int) - 1))).f0) ((rd_T38 l1 (wrap64 ((l1.length:Int) - 1))).f1)).bind fun t225=>((impl_in.f a2 t223 t225).bind fun t226=>(impl_between_60_61_62.j0 k l1 a2 (!t226) a0_0 a0_1))) else (none)) else (none)) = some (r1,r2,r3):=H
    have A13:=zM A130
    clear A130
    obtain ⟨ji14,hji14⟩:∃ j_:Int,(wrap64 ((l1.length:Int) - 1)) = j_:=⟨_,rfl⟩
    replace H:(if 0 ≤ (ji14) then (if (ji14) < (l1.length:Int) then ((impl_timeOf.f ((rd_T38 l1 (ji14)).f0) ((rd_T38 l1 (ji14)).f1)).bind fun t225=>((impl_in.f a2 t223 t225).bind fun t226=>(impl_between_60_61_62.j0 k l1 a2 (!t226) a0_0 a0_1))) else (none)) else (none)) = some (r1,r2,r3):=by first|(rw [hji14] at H;exact H)|(simp only [hji14] at H ⊢;exact H)
    (try rw [hji14] at A10)
    (try rw [hji14] at A13)
    have hji14w:(IntKind.i64.wrap ((l1.length:Int) - 1)) = ji14:=(i64_w _).trans hji14
    by_cases c15:0 ≤ (ji14)
    ·rw [if_pos c15] at H
     have c15b0:decide (0 ≤ (ji14)) = true:=decide_eq_true c15
     clear c15
     by_cases c16:(ji14) < (l1.length:Int)
     ·rw [if_pos c16] at H
      have c16b0:decide ((ji14) < (l1.length:Int)) = true:=decide_eq_true c16
      clear c16
      replace H:=zO H
      obtain ⟨t225,A170,H⟩:=H
      replace H:((impl_in.f a2 t223 t225).bind fun t226=>(impl_between_60_61_62.j0 k l1 a2 (!t226) a0_0 a0_1)) = some (r1,r2,r3):=H
      have A17:=zM A170
      clear A170
      replace H:=zO H
      obtain ⟨t226,A180,H⟩:=H
      replace H:(impl_between_60_61_62.j0 k l1 a2 (!t226) a0_0 a0_1) = some (r1,r2,r3):=H
      have A18:=zM A180
      clear A180
      have H':=zM H
      clear H
      try go_wp2
      have n0_:=zM (bB BK219.out)
      have n1_:=zM (bB BK220.out)
      have n2_:=zM (bF HB.out)
      clear BK219
      clear BK220
      clear HB
      have BK219:=n0_
      have BK220:=n1_
      have HB:=n2_
      clear n0_ n1_ n2_
      have p222:0 ≤ (0:Int):=(by omega)
      have q222:0 < (l1.length:Int):=of_decide_eq_true (by first|(with_reducible assumption)|assumption)
      obtain ⟨ad222,e222,hx222_0,hx222_1⟩:=at_T38 HR1.out 0 p222 q222
      have hw222_1:=hx222_1
      (try rw [show ((0:Int)).toNat = 0 from rfl] at hw222_1)
      (try rw [show 0 * 2 = 0 from rfl] at hw222_1)
      (try rw [Addr.add_zero'] at hw222_1)
      have hw222_0:=hx222_0
      (try rw [show ((0:Int)).toNat = 0 from rfl] at hw222_0)
      (try rw [show 0 * 2 = 0 from rfl] at hw222_0)
      (try rw [Addr.add_zero'] at hw222_0)
      cases e222
      have qi222:(0 < l1.length) = True:=eq_true (by omega)
      (try rw [show ((0:Int)).toNat = 0 from rfl] at hx222_0)
      (try rw [show 0 * 2 = 0 from rfl] at hx222_0)
      (try rw [Addr.add_zero'] at hx222_0)
      (try rw [show ((0:Int)).toNat = 0 from rfl] at hx222_1)
      (try rw [show 0 * 2 = 0 from rfl] at hx222_1)
      (try rw [Addr.add_zero'] at hx222_1)
      replace hx222_0:=(HB.out.cell (World.block_lt_of_cell? w _ hx222_0)).trans hx222_0
      replace hx222_1:=(HB.out.cell (World.block_lt_of_cell? w _ hx222_1)).trans hx222_1
      replace p222:=eq_true p222
      replace q222:=eq_true q222
      have p224:0 ≤ ((ji14):Int):=of_decide_eq_true (by first|(with_reducible assumption)|assumption)
      have q224:(ji14) < (l1.length:Int):=of_decide_eq_true (by first|(with_reducible assumption)|assumption)
      obtain ⟨ad224,e224,hx224_0,hx224_1⟩:=at_T38 HR1.out (ji14) p224 q224
      have hw224_1:=hx224_1
      have hw224_0:=hx224_0
      obtain rfl:ad222 = ad224:=(by injection e224)
      replace hx224_0:=(HB.out.cell (World.block_lt_of_cell? w _ hx224_0)).trans hx224_0
      replace hx224_1:=(HB.out.cell (World.block_lt_of_cell? w _ hx224_1)).trans hx224_1
      replace p224:=eq_true p224
      replace q224:=eq_true q224
      refine start_ (n:=22) (S:=fun w'=>w'.cell? ⟨gb219,0,none⟩ = some (.int .i64 a0_0) ∧ w'.cell? ⟨gb219,1,none⟩ = some (.int .i64 a0_1) ∧ w'.cell? ad222 = some (.int .i64 ((rd_T38 l1 0).f0)) ∧ w'.cell? ⟨ad222.block,ad222.off + 1,none⟩ = some (.int .i64 ((rd_T38 l1 0).f1)) ∧ w'.cell? (ad222.add (((ji14)).toNat * 2)) = some (.int .i64 ((rd_T38 l1 (ji14)).f0)) ∧ w'.cell? ⟨(ad222.add (((ji14)).toNat * 2)).block,(ad222.add (((ji14)).toNat * 2)).off + 1,none⟩ = some (.int .i64 ((rd_T38 l1 (ji14)).f1))) (ds:=[]) #[false,false,false,false,false,false,false,false,false,false,false,false,false,false,false,false,false,false,false,false,false,false] (by kernel_rfl) rfl rfl ⟨(blk_cell BK219.out 0).trans rfl,(blk_cell BK219.out 1).trans rfl,((HB.out.cell (World.block_lt_of_cell? w _ hw222_0)).trans hw222_0),((HB.out.cell (World.block_lt_of_cell? w _ hw222_1)).trans hw222_1),((HB.out.cell (World.block_lt_of_cell? w _ hw224_0)).trans hw224_0),((HB.out.cell (World.block_lt_of_cell? w _ hw224_1)).trans hw224_1)⟩ (fun hHeld=>?_);refine with_tabW impl_between_60_61_62.tab1 impl_between_60_61_62.bits1 (fun HT_ HW_=>?_)
      generalize w9.drew = w19 at BK219 BK220 HB hx222_0 hx222_1 hx224_0 hx224_1 hHeld ⊢
      refine pure_ (i:=1) (N:=some 22) (v:=?_) (a':=?_) #[false,true,false,false,false,false,false,false,false,false,false,false,false,false,false,false,false,false,false,false,false,false] rfl rfl (any_of HT_.out (by kernel_rfl)) (fun _ _ _ h=>h) (Or.inl ⟨by rfl,?_⟩) ?_ ?_
      rotate_left
      ·intro w'
       go_simp
       with_reducible rfl
      rotate_left
      ·simp only [Act.put,zS,z0,z1,i64_w,i32_w]
       rfl
      refine take_ (i:=0) (N:=some 21) (v:=?_) (a':=?_) #[true,true,false,false,false,false,false,false,false,false,false,false,false,false,false,false,false,false,false,false,false,false] rfl rfl (take_ofW HT_.out HW_.out (by kernel_rfl)) (fun _ _ _ h=>h) (Or.inl ⟨by rfl,?_⟩) hHeld ?_ ?_
      rotate_left
      ·rintro w' ⟨s0,s1,s2,s3,s4,s5⟩
       go_simp
       with_reducible rfl
      rotate_left
      ·simp only [Act.put,zS,z0,z1,i64_w,i32_w]
       rfl
      refine one_ (i:=2) (N:=some 23) #[true,true,true,false,false,false,false,false,false,false,false,false,false,false,false,false,false,false,false,false,false,false] rfl rfl (one_of HT_.out (by kernel_rfl)) (by decide) (fun K hK=>?_)
      refine goes_ Try.func16 (by kernel_rfl) rfl #[.agg #[.int .i64 a0_0,.int .i64 a0_1],.slice (some ad222) l1.length c1] (by rfl) rfl rfl (by (try simp only [List.map_toArray,List.map_cons,List.map_nil]);first|done|rfl) ?_
      with_reducible refine (impl_MarksOk.calls k a0_0 a0_1 _ _ l1 true _ ?side1 ?side2 A10.out).mono ?_
      (case side1=>repeat (first|exact (Kd.C_below HR1.out HB.out)|(with_reducible refine Kd.C_alloc ?_ _)|(with_reducible refine Kd.C_drewN ?_ _)|(with_reducible refine Kd.C_drew ?_)))
      (case side2=>exact HC1.out)
      rintro e w20 ⟨rfl,hb⟩
      refine ⟨_,rfl,?_⟩
      have n0_:=zM (blk_below (g:=gb219) (o:=.cells #[.int .i64 a0_0,.int .i64 a0_1] 27 (0,0)) (by (with_reducible repeat (first|refine bA ?_ _|refine bB ?_|refine bC ?_ _));exact BK219.out) hb)
      have n1_:=zM (blk_below (g:=gb220) (o:=.cells #[.int .i64 0,.int .i64 0] 40 (0,0)) (by (with_reducible repeat (first|refine bA ?_ _|refine bB ?_|refine bC ?_ _));exact BK220.out) hb)
      have n2_:=zM (bG (by repeat (first|(with_reducible first|exact HB.out|apply bE|apply bD|apply bF|refine below_set ?_ GE219.out|refine below_set ?_ GE220.out)|exact HB.out)) hb)
      clear BK219
      clear BK220
      clear HB
      have BK219:=n0_
      have BK220:=n1_
      have HB:=n2_
      clear n0_ n1_ n2_
      (try clear hb)
      (try clear hb2)
      (try clear hk)
      (try clear hi)
      refine hK.out _ _ ⟨(blk_cell BK219.out 0).trans rfl,(blk_cell BK219.out 1).trans rfl,((HB.out.cell (World.block_lt_of_cell? w _ hw222_0)).trans hw222_0),((HB.out.cell (World.block_lt_of_cell? w _ hw222_1)).trans hw222_1),((HB.out.cell (World.block_lt_of_cell? w _ hw224_0)).trans hw224_0),((HB.out.cell (World.block_lt_of_cell? w _ hw224_1)).trans hw224_1)⟩ (fun hHeld=>?_)
      clear hK K
      refine norm_ (a':=?_) ?_ ?_
      rotate_left
      ·show Act.put _ (some 23) _ = _
       simp only [Act.put,zS,z0,z1,i64_w,i32_w]
       rfl
      refine pure_ (i:=3) (N:=some 24) (v:=?_) (a':=?_) #[true,true,true,true,false,false,false,false,false,false,false,false,false,false,false,false,false,false,false,false,false,false] rfl rfl (any_of HT_.out (by kernel_rfl)) (fun _ _ _ h=>h) (Or.inl ⟨by rfl,?_⟩) ?_ ?_
      rotate_left
      ·intro w'
       go_simp
       with_reducible rfl
      rotate_left
      ·simp only [Act.put,zS,z0,z1,i64_w,i32_w]
       rfl
      refine pure_ (i:=4) (N:=some 25) (v:=?_) (a':=?_) #[true,true,true,true,true,false,false,false,false,false,false,false,false,false,false,false,false,false,false,false,false,false] rfl rfl (any_of HT_.out (by kernel_rfl)) (fun _ _ _ h=>h) (Or.inl ⟨by rfl,?_⟩) ?_ ?_
      rotate_left
      ·intro w'
       go_simp
       with_reducible rfl
      rotate_left
      ·simp only [Act.put,zS,z0,z1,i64_w,i32_w]
       rfl
      refine pure_ (i:=5) (N:=some 26) (v:=?_) (a':=?_) #[true,true,true,true,true,true,false,false,false,false,false,false,false,false,false,false,false,false,false,false,false,false] rfl rfl (any_of HT_.out (by kernel_rfl)) (fun _ _ _ h=>h) (Or.inl ⟨by rfl,?_⟩) ?_ ?_
      rotate_left
      ·intro w'
       go_simp
       with_reducible rfl
      rotate_left
      ·simp only [Act.put,zS,z0,z1,i64_w,i32_w]
       rfl
      refine pure_ (i:=6) (N:=some 27) (v:=?_) (a':=?_) #[true,true,true,true,true,true,true,false,false,false,false,false,false,false,false,false,false,false,false,false,false,false] rfl rfl (any_of HT_.out (by kernel_rfl)) (fun _ _ _ h=>h) (Or.inl ⟨by rfl,?_⟩) ?_ ?_
      rotate_left
      ·intro w'
       go_simp
       with_reducible rfl
      rotate_left
      ·simp only [Act.put,zS,z0,z1,i64_w,i32_w]
       rfl
      refine pure_ (i:=7) (N:=some 28) (v:=?_) (a':=?_) #[true,true,true,true,true,true,true,true,false,false,false,false,false,false,false,false,false,false,false,false,false,false] rfl rfl (any_of HT_.out (by kernel_rfl)) (fun _ _ _ h=>h) (Or.inl ⟨by rfl,?_⟩) ?_ ?_
      rotate_left
      ·intro w'
       go_simp
       with_reducible rfl
      rotate_left
      ·simp only [Act.put,zS,z0,z1,i64_w,i32_w]
       rfl
      refine pure_ (i:=8) (N:=some 29) (v:=?_) (a':=?_) #[true,true,true,true,true,true,true,true,true,false,false,false,false,false,false,false,false,false,false,false,false,false] rfl rfl (any_of HT_.out (by kernel_rfl)) (fun _ _ _ h=>h) (Or.inl ⟨by rfl,?_⟩) ?_ ?_
      rotate_left
      ·intro w'
       go_simp
       with_reducible rfl
      rotate_left
      ·simp only [Act.put,zS,z0,z1,i64_w,i32_w]
       rfl
      refine pure_ (i:=11) (N:=some 32) (v:=?_) (a':=?_) #[true,true,true,true,true,true,true,true,true,false,false,true,false,false,false,false,false,false,false,false,false,false] rfl rfl (any_of HT_.out (by kernel_rfl)) (fun _ _ _ h=>h) (Or.inl ⟨by rfl,?_⟩) ?_ ?_
      rotate_left
      ·intro w'
       go_simp
       with_reducible rfl
      rotate_left
      ·simp only [Act.put,zS,z0,z1,i64_w,i32_w]
       rfl
      refine pure_ (i:=12) (N:=some 33) (v:=?_) (a':=?_) #[true,true,true,true,true,true,true,true,true,false,false,true,true,false,false,false,false,false,false,false,false,false] rfl rfl (any_of HT_.out (by kernel_rfl)) (fun _ _ _ h=>h) (Or.inl ⟨by rfl,?_⟩) ?_ ?_
      rotate_left
      ·intro w'
       go_simp
       with_reducible rfl
      rotate_left
      ·simp only [Act.put,zS,z0,z1,i64_w,i32_w]
       rfl
      refine pure_ (i:=13) (N:=some 34) (v:=?_) (a':=?_) #[true,true,true,true,true,true,true,true,true,false,false,true,true,true,false,false,false,false,false,false,false,false] rfl rfl (any_of HT_.out (by kernel_rfl)) (fun _ _ _ h=>h) (Or.inl ⟨by rfl,?_⟩) ?_ ?_
      rotate_left
      ·intro w'
       go_simp
       with_reducible rfl
      rotate_left
      ·simp only [Act.put,zS,z0,z1,i64_w,i32_w]
       rfl
      refine pure_ (i:=14) (N:=some 35) (v:=?_) (a':=?_) #[true,true,true,true,true,true,true,true,true,false,false,true,true,true,true,false,false,false,false,false,false,false] rfl rfl (any_of HT_.out (by kernel_rfl)) (fun _ _ _ h=>h) (Or.inl ⟨by rfl,?_⟩) ?_ ?_
      rotate_left
      ·intro w'
       go_simp
       with_reducible rfl
      rotate_left
      ·simp only [Act.put,zS,z0,z1,i64_w,i32_w]
       rfl
      refine pure_ (i:=15) (N:=some 36) (v:=?_) (a':=?_) #[true,true,true,true,true,true,true,true,true,false,false,true,true,true,true,true,false,false,false,false,false,false] rfl rfl (any_of HT_.out (by kernel_rfl)) (fun _ _ _ h=>h) (Or.inl ⟨by rfl,?_⟩) ?_ ?_
      rotate_left
      ·intro w'
       go_simp
       with_reducible rfl
      rotate_left
      ·simp only [Act.put,zS,z0,z1,i64_w,i32_w]
       rfl
      refine pure_ (i:=16) (N:=some 37) (v:=?_) (a':=?_) #[true,true,true,true,true,true,true,true,true,false,false,true,true,true,true,true,true,false,false,false,false,false] rfl rfl (any_of HT_.out (by kernel_rfl)) (fun _ _ _ h=>h) (Or.inl ⟨by rfl,?_⟩) ?_ ?_
      rotate_left
      ·intro w'
       go_simp
       with_reducible rfl
      rotate_left
      ·simp only [Act.put,zS,z0,z1,i64_w,i32_w]
       rfl
      refine take_ (i:=9) (N:=some 30) (v:=?_) (a':=?_) #[true,true,true,true,true,true,true,true,true,true,false,true,true,true,true,true,true,false,false,false,false,false] rfl rfl (take_ofW HT_.out HW_.out (by kernel_rfl)) (fun _ _ _ h=>h) (Or.inl ⟨by rfl,?_⟩) hHeld ?_ ?_
      rotate_left
      ·rintro w' ⟨s0,s1,s2,s3,s4,s5⟩
       go_simp
       with_reducible rfl
      rotate_left
      ·simp only [Act.put,zS,z0,z1,i64_w,i32_w]
       rfl
      refine take_ (i:=17) (N:=some 38) (v:=?_) (a':=?_) #[true,true,true,true,true,true,true,true,true,true,false,true,true,true,true,true,true,true,false,false,false,false] rfl rfl (take_ofW HT_.out HW_.out (by kernel_rfl)) (fun _ _ _ h=>h) (Or.inl ⟨by rfl,?_⟩) hHeld ?_ ?_
      rotate_left
      ·rintro w' ⟨s0,s1,s2,s3,s4,s5⟩
       go_simp
       with_reducible rfl
      rotate_left
      ·simp only [Act.put,zS,z0,z1,i64_w,i32_w]
       rfl
      refine one_ (i:=10) (N:=some 31) #[true,true,true,true,true,true,true,true,true,true,true,true,true,true,true,true,true,true,false,false,false,false] rfl rfl (one_of HT_.out (by kernel_rfl)) (by decide) (fun K hK=>?_)
      refine goesW_ Try.func60 (by kernel_rfl) rfl #[.agg #[.int .i64 ((rd_T38 l1 0).f0),.int .i64 ((rd_T38 l1 0).f1)]] (by rfl) rfl rfl (by (try simp only [List.map_toArray,List.map_cons,List.map_nil]);first|done|rfl) ?_
      with_reducible refine (impl_timeOf.calls ((rd_T38 l1 0).f0) ((rd_T38 l1 0).f1) t223 _ A13.out).mono ?_
      rintro e w21 ⟨rfl,hb⟩
      refine ⟨_,rfl,?_⟩
      have n0_:=zM (blk_below (g:=gb219) (o:=.cells #[.int .i64 a0_0,.int .i64 a0_1] 27 (0,0)) (by (with_reducible repeat (first|refine bA ?_ _|refine bB ?_|refine bC ?_ _));exact BK219.out) hb)
      have n1_:=zM (blk_below (g:=gb220) (o:=.cells #[.int .i64 0,.int .i64 0] 40 (0,0)) (by (with_reducible repeat (first|refine bA ?_ _|refine bB ?_|refine bC ?_ _));exact BK220.out) hb)
      have n2_:=zM (bG (by repeat (first|(with_reducible first|exact HB.out|apply bE|apply bD|apply bF|refine below_set ?_ GE219.out|refine below_set ?_ GE220.out)|exact HB.out)) hb)
      clear BK219
      clear BK220
      clear HB
      have BK219:=n0_
      have BK220:=n1_
      have HB:=n2_
      clear n0_ n1_ n2_
      (try clear hb)
      (try clear hb2)
      (try clear hk)
      (try clear hi)
      refine hK.out _ _ ⟨(blk_cell BK219.out 0).trans rfl,(blk_cell BK219.out 1).trans rfl,((HB.out.cell (World.block_lt_of_cell? w _ hw222_0)).trans hw222_0),((HB.out.cell (World.block_lt_of_cell? w _ hw222_1)).trans hw222_1),((HB.out.cell (World.block_lt_of_cell? w _ hw224_0)).trans hw224_0),((HB.out.cell (World.block_lt_of_cell? w _ hw224_1)).trans hw224_1)⟩ (fun hHeld=>?_)
      clear hK K
      refine norm_ (a':=?_) ?_ ?_
      rotate_left
      ·show Act.put _ (some 31) _ = _
       simp only [Act.put,zS,z0,z1,i64_w,i32_w]
       rfl
      refine one_ (i:=18) (N:=some 39) #[true,true,true,true,true,true,true,true,true,true,true,true,true,true,true,true,true,true,true,false,false,false] rfl rfl (one_of HT_.out (by kernel_rfl)) (by decide) (fun K hK=>?_)
      refine goesW_ Try.func60 (by kernel_rfl) rfl #[.agg #[.int .i64 ((rd_T38 l1 (ji14)).f0),.int .i64 ((rd_T38 l1 (ji14)).f1)]] (by rfl) rfl rfl (by (try simp only [List.map_toArray,List.map_cons,List.map_nil]);first|done|(simp only [hji14];rfl)|rfl|(simp only [List.length_drop,List.length_take];rfl)) ?_
      with_reducible refine (impl_timeOf.calls ((rd_T38 l1 (ji14)).f0) ((rd_T38 l1 (ji14)).f1) t225 _ A17.out).mono ?_
      rintro e w22 ⟨rfl,hb⟩
      refine ⟨_,rfl,?_⟩
      have n0_:=zM (blk_below (g:=gb219) (o:=.cells #[.int .i64 a0_0,.int .i64 a0_1] 27 (0,0)) (by (with_reducible repeat (first|refine bA ?_ _|refine bB ?_|refine bC ?_ _));exact BK219.out) hb)
      have n1_:=zM (blk_below (g:=gb220) (o:=.cells #[.int .i64 0,.int .i64 0] 40 (0,0)) (by (with_reducible repeat (first|refine bA ?_ _|refine bB ?_|refine bC ?_ _));exact BK220.out) hb)
      have n2_:=zM (bG (by repeat (first|(with_reducible first|exact HB.out|apply bE|apply bD|apply bF|refine below_set ?_ GE219.out|refine below_set ?_ GE220.out)|exact HB.out)) hb)
      clear BK219
      clear BK220
      clear HB
      have BK219:=n0_
      have BK220:=n1_
      have HB:=n2_
      clear n0_ n1_ n2_
      (try clear hb)
      (try clear hb2)
      (try clear hk)
      (try clear hi)
      refine hK.out _ _ ⟨(blk_cell BK219.out 0).trans rfl,(blk_cell BK219.out 1).trans rfl,((HB.out.cell (World.block_lt_of_cell? w _ hw222_0)).trans hw222_0),((HB.out.cell (World.block_lt_of_cell? w _ hw222_1)).trans hw222_1),((HB.out.cell (World.block_lt_of_cell? w _ hw224_0)).trans hw224_0),((HB.out.cell (World.block_lt_of_cell? w _ hw224_1)).trans hw224_1)⟩ (fun hHeld=>?_)
      clear hK K
      refine norm_ (a':=?_) ?_ ?_
      rotate_left
      ·show Act.put _ (some 39) _ = _
       simp only [Act.put,zS,z0,z1,i64_w,i32_w]
       rfl
      refine one_ (i:=19) (N:=some 40) #[true,true,true,true,true,true,true,true,true,true,true,true,true,true,true,true,true,true,true,true,false,false] rfl rfl (one_of HT_.out (by kernel_rfl)) (by decide) (fun K hK=>?_)
      refine goes_ Try.func53 (by kernel_rfl) rfl #[.int .i64 a2,.int .i64 t223,.int .i64 t225] (by rfl) rfl rfl (by (try simp only [List.map_toArray,List.map_cons,List.map_nil]);first|done|rfl) ?_
      with_reducible refine (impl_in.calls a2 t223 t225 t226 _ A18.out).mono ?_
      rintro e w' ⟨rfl,⟨nd,rfl⟩⟩
      refine ⟨_,rfl,?_⟩
      refine hK.out _ _ ⟨(blk_cell BK219.out 0).trans rfl,(blk_cell BK219.out 1).trans rfl,((HB.out.cell (World.block_lt_of_cell? w _ hw222_0)).trans hw222_0),((HB.out.cell (World.block_lt_of_cell? w _ hw222_1)).trans hw222_1),((HB.out.cell (World.block_lt_of_cell? w _ hw224_0)).trans hw224_0),((HB.out.cell (World.block_lt_of_cell? w _ hw224_1)).trans hw224_1)⟩ (fun hHeld=>?_)
      clear hK K
      refine norm_ (a':=?_) ?_ ?_
      rotate_left
      ·show Act.put _ (some 40) _ = _
       simp only [Act.put,zS,z0,z1,i64_w,i32_w]
       rfl
      refine pure_ (i:=20) (N:=some 41) (v:=?_) (a':=?_) #[true,true,true,true,true,true,true,true,true,true,true,true,true,true,true,true,true,true,true,true,true,false] rfl rfl (any_of HT_.out (by kernel_rfl)) (fun _ _ _ h=>h) (Or.inl ⟨by rfl,?_⟩) ?_ ?_
      rotate_left
      ·intro w'
       go_simp
       with_reducible rfl
      rotate_left
      ·simp only [Act.put,zS,z0,z1,i64_w,i32_w]
       rfl
      refine pure_ (i:=21) (N:=some 42) (v:=?_) (a':=?_) #[true,true,true,true,true,true,true,true,true,true,true,true,true,true,true,true,true,true,true,true,true,true] rfl rfl (any_of HT_.out (by kernel_rfl)) (fun _ _ _ h=>h) (Or.inl ⟨by rfl,?_⟩) ?_ ?_
      rotate_left
      ·intro w'
       go_simp
       with_reducible rfl
      rotate_left
      ·simp only [Act.put,zS,z0,z1,i64_w,i32_w]
       rfl
      refine done_ (done_of HT_.out (by kernel_rfl)) ?_
      try go_wp2
      go_meet
      case rel=>exact ⟨_,(!t226),(by first|rfl|(simp;done)|(simp [*];done)),H',⟨by first|omega|exact Nat.le_refl _⟩,⟨by (with_reducible repeat (first|refine bA ?_ _|refine bB ?_|refine bC ?_ _));exact BK219.out⟩,⟨by (with_reducible repeat (first|refine bA ?_ _|refine bB ?_|refine bC ?_ _));exact BK220.out⟩,⟨by repeat (first|(with_reducible first|exact HB.out|apply bE|apply bD|apply bF|refine below_set ?_ GE219.out|refine below_set ?_ GE220.out)|exact HB.out)⟩⟩
     ·rw [if_neg c16] at H
      exact absurd H (by simp)
    ·rw [if_neg c15] at H
     exact absurd H (by simp)
   ·rw [if_neg c12] at H
    exact absurd H (by simp)
  ·replace c11:=Bool.eq_false_iff.mpr c11
   subst c11
   have H1:(impl_between_60_61_62.j0 k l1 a2 true a0_0 a0_1) = some (r1,r2,r3):=by rw [if_neg (show ¬ (false = true) by decide)] at H;exact H
   clear H
   have H:=H1
   clear H1
   have H':=zM H
   clear H
   try go_wp2
   have n0_:=zM (bB BK219.out)
   have n1_:=zM (bB BK220.out)
   have n2_:=zM (bF HB.out)
   clear BK219
   clear BK220
   clear HB
   have BK219:=n0_
   have BK220:=n1_
   have HB:=n2_
   clear n0_ n1_ n2_
   refine start_ (n:=22) (S:=fun w'=>w'.cell? ⟨gb219,0,none⟩ = some (.int .i64 a0_0) ∧ w'.cell? ⟨gb219,1,none⟩ = some (.int .i64 a0_1)) (ds:=[]) #[false,false,false,false,false,false,false,false,false,false,false,false,false,false,false,false,false,false,false,false,false,false] (by kernel_rfl) rfl rfl ⟨(blk_cell BK219.out 0).trans rfl,(blk_cell BK219.out 1).trans rfl⟩ (fun hHeld=>?_);refine with_tabW impl_between_60_61_62.tab1 impl_between_60_61_62.bits1 (fun HT_ HW_=>?_)
   generalize w9.drew = w23 at BK219 BK220 HB hHeld ⊢
   refine pure_ (i:=1) (N:=some 22) (v:=?_) (a':=?_) #[false,true,false,false,false,false,false,false,false,false,false,false,false,false,false,false,false,false,false,false,false,false] rfl rfl (any_of HT_.out (by kernel_rfl)) (fun _ _ _ h=>h) (Or.inl ⟨by rfl,?_⟩) ?_ ?_
   rotate_left
   ·intro w'
    go_simp
    with_reducible rfl
   rotate_left
   ·simp only [Act.put,zS,z0,z1,i64_w,i32_w]
    rfl
   refine take_ (i:=0) (N:=some 21) (v:=?_) (a':=?_) #[true,true,false,false,false,false,false,false,false,false,false,false,false,false,false,false,false,false,false,false,false,false] rfl rfl (take_ofW HT_.out HW_.out (by kernel_rfl)) (fun _ _ _ h=>h) (Or.inl ⟨by rfl,?_⟩) hHeld ?_ ?_
   rotate_left
   ·rintro w' ⟨s0,s1⟩
    go_simp
    with_reducible rfl
   rotate_left
   ·simp only [Act.put,zS,z0,z1,i64_w,i32_w]
    rfl
   refine one_ (i:=2) (N:=some 23) #[true,true,true,false,false,false,false,false,false,false,false,false,false,false,false,false,false,false,false,false,false,false] rfl rfl (one_of HT_.out (by kernel_rfl)) (by decide) (fun K hK=>?_)
   refine goes_ Try.func16 (by kernel_rfl) rfl #[.agg #[.int .i64 a0_0,.int .i64 a0_1],.slice A1 l1.length c1] (by rfl) rfl rfl (by (try simp only [List.map_toArray,List.map_cons,List.map_nil]);first|done|rfl) ?_
   with_reducible refine (impl_MarksOk.calls k a0_0 a0_1 _ _ l1 false _ ?side1 ?side2 A10.out).mono ?_
   (case side1=>repeat (first|exact (Kd.C_below HR1.out HB.out)|(with_reducible refine Kd.C_alloc ?_ _)|(with_reducible refine Kd.C_drewN ?_ _)|(with_reducible refine Kd.C_drew ?_)))
   (case side2=>exact HC1.out)
   rintro e w24 ⟨rfl,hb⟩
   refine ⟨_,rfl,?_⟩
   have n0_:=zM (blk_below (g:=gb219) (o:=.cells #[.int .i64 a0_0,.int .i64 a0_1] 27 (0,0)) (by (with_reducible repeat (first|refine bA ?_ _|refine bB ?_|refine bC ?_ _));exact BK219.out) hb)
   have n1_:=zM (blk_below (g:=gb220) (o:=.cells #[.int .i64 0,.int .i64 0] 40 (0,0)) (by (with_reducible repeat (first|refine bA ?_ _|refine bB ?_|refine bC ?_ _));exact BK220.out) hb)
   have n2_:=zM (bG (by repeat (first|(with_reducible first|exact HB.out|apply bE|apply bD|apply bF|refine below_set ?_ GE219.out|refine below_set ?_ GE220.out)|exact HB.out)) hb)
   clear BK219
   clear BK220
   clear HB
   have BK219:=n0_
   have BK220:=n1_
   have HB:=n2_
   clear n0_ n1_ n2_
   (try clear hb)
   (try clear hb2)
   (try clear hk)
   (try clear hi)
   refine hK.out _ _ ⟨(blk_cell BK219.out 0).trans rfl,(blk_cell BK219.out 1).trans rfl⟩ (fun hHeld=>?_)
   clear hK K
   refine norm_ (a':=?_) ?_ ?_
   rotate_left
   ·show Act.put _ (some 23) _ = _
    simp only [Act.put,zS,z0,z1,i64_w,i32_w]
    rfl
   refine pure_ (i:=3) (N:=some 24) (v:=?_) (a':=?_) #[true,true,true,true,false,false,false,false,false,false,false,false,false,false,false,false,false,false,false,false,false,false] rfl rfl (any_of HT_.out (by kernel_rfl)) (fun _ _ _ h=>h) (Or.inl ⟨by rfl,?_⟩) ?_ ?_
   rotate_left
   ·intro w'
    go_simp
    with_reducible rfl
   rotate_left
   ·simp only [Act.put,zS,z0,z1,i64_w,i32_w]
    rfl
   refine pure_ (i:=4) (N:=some 25) (v:=?_) (a':=?_) #[true,true,true,true,true,false,false,false,false,false,false,false,false,false,false,false,false,false,false,false,false,false] rfl rfl (any_of HT_.out (by kernel_rfl)) (fun _ _ _ h=>h) (Or.inl ⟨by rfl,?_⟩) ?_ ?_
   rotate_left
   ·intro w'
    go_simp
    with_reducible rfl
   rotate_left
   ·simp only [Act.put,zS,z0,z1,i64_w,i32_w]
    rfl
   refine pure_ (i:=5) (N:=some 26) (v:=undef) (a':=?_) #[true,true,true,true,true,true,false,false,false,false,false,false,false,false,false,false,false,false,false,false,false,false] rfl rfl (any_of HT_.out (by kernel_rfl)) (fun _ _ _ h=>h) (Or.inr ⟨by rfl,rfl⟩) ?_ ?_
   rotate_left
   ·simp only [Act.put,zS,z0,z1,i64_w,i32_w]
    rfl
   refine pure_ (i:=6) (N:=some 27) (v:=undef) (a':=?_) #[true,true,true,true,true,true,true,false,false,false,false,false,false,false,false,false,false,false,false,false,false,false] rfl rfl (any_of HT_.out (by kernel_rfl)) (fun _ _ _ h=>h) (Or.inr ⟨by rfl,rfl⟩) ?_ ?_
   rotate_left
   ·simp only [Act.put,zS,z0,z1,i64_w,i32_w]
    rfl
   refine pure_ (i:=7) (N:=some 28) (v:=undef) (a':=?_) #[true,true,true,true,true,true,true,true,false,false,false,false,false,false,false,false,false,false,false,false,false,false] rfl rfl (any_of HT_.out (by kernel_rfl)) (fun _ _ _ h=>h) (Or.inr ⟨by rfl,rfl⟩) ?_ ?_
   rotate_left
   ·simp only [Act.put,zS,z0,z1,i64_w,i32_w]
    rfl
   refine pure_ (i:=8) (N:=some 29) (v:=undef) (a':=?_) #[true,true,true,true,true,true,true,true,true,false,false,false,false,false,false,false,false,false,false,false,false,false] rfl rfl (any_of HT_.out (by kernel_rfl)) (fun _ _ _ h=>h) (Or.inr ⟨by rfl,rfl⟩) ?_ ?_
   rotate_left
   ·simp only [Act.put,zS,z0,z1,i64_w,i32_w]
    rfl
   refine pure_ (i:=9) (N:=some 30) (v:=undef) (a':=?_) #[true,true,true,true,true,true,true,true,true,true,false,false,false,false,false,false,false,false,false,false,false,false] rfl rfl (any_of HT_.out (by kernel_rfl)) (fun _ _ _ h=>h) (Or.inr ⟨by rfl,rfl⟩) ?_ ?_
   rotate_left
   ·simp only [Act.put,zS,z0,z1,i64_w,i32_w]
    rfl
   refine pure_ (i:=10) (N:=some 31) (v:=undef) (a':=?_) #[true,true,true,true,true,true,true,true,true,true,true,false,false,false,false,false,false,false,false,false,false,false] rfl rfl (any_of HT_.out (by kernel_rfl)) (fun _ _ _ h=>h) (Or.inr ⟨by rfl,rfl⟩) ?_ ?_
   rotate_left
   ·simp only [Act.put,zS,z0,z1,i64_w,i32_w]
    rfl
   refine pure_ (i:=11) (N:=some 32) (v:=undef) (a':=?_) #[true,true,true,true,true,true,true,true,true,true,true,true,false,false,false,false,false,false,false,false,false,false] rfl rfl (any_of HT_.out (by kernel_rfl)) (fun _ _ _ h=>h) (Or.inr ⟨by rfl,rfl⟩) ?_ ?_
   rotate_left
   ·simp only [Act.put,zS,z0,z1,i64_w,i32_w]
    rfl
   refine pure_ (i:=12) (N:=some 33) (v:=undef) (a':=?_) #[true,true,true,true,true,true,true,true,true,true,true,true,true,false,false,false,false,false,false,false,false,false] rfl rfl (any_of HT_.out (by kernel_rfl)) (fun _ _ _ h=>h) (Or.inr ⟨by rfl,rfl⟩) ?_ ?_
   rotate_left
   ·simp only [Act.put,zS,z0,z1,i64_w,i32_w]
    rfl
   refine pure_ (i:=13) (N:=some 34) (v:=undef) (a':=?_) #[true,true,true,true,true,true,true,true,true,true,true,true,true,true,false,false,false,false,false,false,false,false] rfl rfl (any_of HT_.out (by kernel_rfl)) (fun _ _ _ h=>h) (Or.inr ⟨by rfl,rfl⟩) ?_ ?_
   rotate_left
   ·simp only [Act.put,zS,z0,z1,i64_w,i32_w]
    rfl
   refine pure_ (i:=14) (N:=some 35) (v:=undef) (a':=?_) #[true,true,true,true,true,true,true,true,true,true,true,true,true,true,true,false,false,false,false,false,false,false] rfl rfl (any_of HT_.out (by kernel_rfl)) (fun _ _ _ h=>h) (Or.inr ⟨by rfl,rfl⟩) ?_ ?_
   rotate_left
   ·simp only [Act.put,zS,z0,z1,i64_w,i32_w]
    rfl
   refine pure_ (i:=15) (N:=some 36) (v:=undef) (a':=?_) #[true,true,true,true,true,true,true,true,true,true,true,true,true,true,true,true,false,false,false,false,false,false] rfl rfl (any_of HT_.out (by kernel_rfl)) (fun _ _ _ h=>h) (Or.inr ⟨by rfl,rfl⟩) ?_ ?_
   rotate_left
   ·simp only [Act.put,zS,z0,z1,i64_w,i32_w]
    rfl
   refine pure_ (i:=16) (N:=some 37) (v:=undef) (a':=?_) #[true,true,true,true,true,true,true,true,true,true,true,true,true,true,true,true,true,false,false,false,false,false] rfl rfl (any_of HT_.out (by kernel_rfl)) (fun _ _ _ h=>h) (Or.inr ⟨by rfl,rfl⟩) ?_ ?_
   rotate_left
   ·simp only [Act.put,zS,z0,z1,i64_w,i32_w]
    rfl
   refine pure_ (i:=17) (N:=some 38) (v:=undef) (a':=?_) #[true,true,true,true,true,true,true,true,true,true,true,true,true,true,true,true,true,true,false,false,false,false] rfl rfl (any_of HT_.out (by kernel_rfl)) (fun _ _ _ h=>h) (Or.inr ⟨by rfl,rfl⟩) ?_ ?_
   rotate_left
   ·simp only [Act.put,zS,z0,z1,i64_w,i32_w]
    rfl
   refine pure_ (i:=18) (N:=some 39) (v:=undef) (a':=?_) #[true,true,true,true,true,true,true,true,true,true,true,true,true,true,true,true,true,true,true,false,false,false] rfl rfl (any_of HT_.out (by kernel_rfl)) (fun _ _ _ h=>h) (Or.inr ⟨by rfl,rfl⟩) ?_ ?_
   rotate_left
   ·simp only [Act.put,zS,z0,z1,i64_w,i32_w]
    rfl
   refine pure_ (i:=19) (N:=some 40) (v:=undef) (a':=?_) #[true,true,true,true,true,true,true,true,true,true,true,true,true,true,true,true,true,true,true,true,false,false] rfl rfl (any_of HT_.out (by kernel_rfl)) (fun _ _ _ h=>h) (Or.inr ⟨by rfl,rfl⟩) ?_ ?_
   rotate_left
   ·simp only [Act.put,zS,z0,z1,i64_w,i32_w]
    rfl
   refine pure_ (i:=20) (N:=some 41) (v:=undef) (a':=?_) #[true,true,true,true,true,true,true,true,true,true,true,true,true,true,true,true,true,true,true,true,true,false] rfl rfl (any_of HT_.out (by kernel_rfl)) (fun _ _ _ h=>h) (Or.inr ⟨by rfl,rfl⟩) ?_ ?_
   rotate_left
   ·simp only [Act.put,zS,z0,z1,i64_w,i32_w]
    rfl
   refine pure_ (i:=21) (N:=some 42) (v:=?_) (a':=?_) #[true,true,true,true,true,true,true,true,true,true,true,true,true,true,true,true,true,true,true,true,true,true] rfl rfl (any_of HT_.out (by kernel_rfl)) (fun _ _ _ h=>h) (Or.inl ⟨by rfl,?_⟩) ?_ ?_
   rotate_left
   ·intro w'
    go_simp
    with_reducible rfl
   rotate_left
   ·simp only [Act.put,zS,z0,z1,i64_w,i32_w]
    rfl
   refine done_ (done_of HT_.out (by kernel_rfl)) ?_
   try go_wp2
   go_meet
   case rel=>exact ⟨_,(true),(by first|rfl|(simp;done)|(simp [*];done)),H',⟨by first|omega|exact Nat.le_refl _⟩,⟨by (with_reducible repeat (first|refine bA ?_ _|refine bB ?_|refine bC ?_ _));exact BK219.out⟩,⟨by (with_reducible repeat (first|refine bA ?_ _|refine bB ?_|refine bC ?_ _));exact BK220.out⟩,⟨by repeat (first|(with_reducible first|exact HB.out|apply bE|apply bD|apply bF|refine below_set ?_ GE219.out|refine below_set ?_ GE220.out)|exact HB.out)⟩⟩
 case rest =>
  clear HC7
  try clear c1
  try clear p2
  try clear q2
  try clear hx2
  try clear qi2
  try clear c5
  try clear c6
  try clear p6
  try clear c7
  try clear c11
  try clear c12
  try clear c12b0
  try clear c12b1
  try clear c15
  try clear c15b0
  try clear c16
  try clear c16b0
  try clear p22
  try clear q22
  try clear hx22
  try clear qi22
  try clear hx222_0
  try clear hx222_1
  try clear hx224_0
  try clear hx224_1
  try clear p222
  try clear p224
  try clear q222
  try clear q224
  obtain ⟨kq,x42_6,rfl,HA,HJ6,BK219,BK220,HB⟩:=hcut
  cases kq with
  | zero=>exact absurd HA.out (by simp [impl_between_60_61_62.j0])
  | succ kj6 =>
   have H:=HA.out
   clear HA
   simp only [impl_between_60_61_62.j0] at H
   have HC25:=zM H
   clear H
   go_upto_if 42 with (fail)
   go_cut [] (fun wc=>∃ (kq:Nat) (x221000_24:Int) (x221001_24:Int),Aside0 (impl_between_60_61_62.j1 kq l1 a2 a0_0 a0_1 = some (r1,r2,r3)) ∧ Aside0 (kq ≤ kj6) ∧ Aside0 (wc.heap[gb219]? = some (.cells #[.int .i64 a0_0,.int .i64 a0_1] 27 (0,0))) ∧ Aside0 (wc.heap[gb220]? = some (.cells #[.int .i64 x221000_24,.int .i64 x221001_24] 40 (0,0))) ∧ Aside0 (Below w.heap.size w wc))
   case first =>
    have H:=HC25.out
    clear HC25
    by_cases c26:x42_6 = true
    ·subst c26
     have H1:(some (0,0,false)) = some (r1,r2,r3):=by rw [if_pos rfl] at H;exact H
     clear H
     have H:=H1
     clear H1
     simp only [zI,zJ] at H
     obtain ⟨rfl,rfl,rfl⟩:=H
     have hnb27:=NB220_219.out
     have hnc27:=NB219_220.out
     have hcz28_0:wc.cell? ⟨gb220,0,none⟩ = some (.int .i64 0):=(blk_cell BK220.out 0).trans rfl
     have hcz28_1:wc.cell? ⟨gb220,1,none⟩ = some (.int .i64 0):=(blk_cell BK220.out 1).trans rfl
     have hfz28_0:=blk_frozen BK220.out 0
     have hfz28_1:=blk_frozen BK220.out 1
     go_wp2
     refine bodyPost_ret (results_ct rfl _ _ gb220 40 #[.int .i64 0,.int .i64 0] (0,0) _ rfl (by (with_reducible repeat (first|refine bA ?_ _|refine bB ?_|refine bC ?_ _));refine bH (cs:=#[.int .i64 0,.int .i64 0]) ?_ 1 _ rfl;(with_reducible repeat (first|refine bA ?_ _|refine bB ?_|refine bC ?_ _));refine bH (cs:=#[.int .i64 0,.int .i64 0]) ?_ 0 _ rfl;(with_reducible repeat (first|refine bA ?_ _|refine bB ?_|refine bC ?_ _));exact BK220.out) Try.underlying40 rfl (by kernel_rfl)) rfl ?_
     exact ⟨by first|rfl|(simp [*,errW_none,errW_some] <;> rfl),by repeat (first|(with_reducible first|exact HB.out|apply bE|apply bD|apply bF|refine below_set ?_ GE219.out|refine below_set ?_ GE220.out)|exact HB.out)⟩
    ·replace c26:=Bool.eq_false_iff.mpr c26
     subst c26
     have H1:(impl_between_60_61_62.j1 kj6 l1 a2 a0_0 a0_1) = some (r1,r2,r3):=by rw [if_neg (show ¬ (false = true) by decide)] at H;exact H
     clear H
     have H:=H1
     clear H1
     have H':=zM H
     clear H
     go_wp2
     go_meet
     case rel=>exact ⟨_,(0),(0),H',⟨by have:=HJ6.out;first|omega|exact Nat.le_refl _⟩,⟨by (with_reducible repeat (first|refine bA ?_ _|refine bB ?_|refine bC ?_ _));exact BK219.out⟩,⟨by (with_reducible repeat (first|refine bA ?_ _|refine bB ?_|refine bC ?_ _));exact BK220.out⟩,⟨by repeat (first|(with_reducible first|exact HB.out|apply bE|apply bD|apply bF|refine below_set ?_ GE219.out|refine below_set ?_ GE220.out)|exact HB.out)⟩⟩
   case rest =>
    clear HC25
    try clear c1
    try clear c2
    try clear p2
    try clear q2
    try clear hx2
    try clear qi2
    try clear c5
    try clear c6
    try clear p6
    try clear c7
    try clear c11
    try clear c12
    try clear c12b0
    try clear c12b1
    try clear c15
    try clear c15b0
    try clear c16
    try clear c16b0
    try clear p22
    try clear q22
    try clear hx22
    try clear qi22
    try clear c26
    try clear c27
    try clear hcz28_0
    try clear hcz28_1
    try clear hfz28_0
    try clear hfz28_1
    try clear hx222_0
    try clear hx222_1
    try clear hx224_0
    try clear hx224_1
    try clear p2
    try clear p22
    try clear p222
    try clear p224
    try clear p6
    try clear q2
    try clear q22
    try clear q222
    try clear q224
    obtain ⟨kq,x221000_24,x221001_24,HA,HJ24,BK219,BK220,HB⟩:=hcut
    cases kq with
    | zero=>exact absurd HA.out (by simp [impl_between_60_61_62.j1])
    | succ kj24 =>
     have H:=HA.out
     clear HA
     simp only [impl_between_60_61_62.j1] at H
     have HC29:=zM H
     clear H
     go_upto_block 0 with (fail)
     go_cut [14] (fun v14 wc=>∃ (kq:Nat) (x14_28:Int),v14 = .int .i64 x14_28 ∧ Aside0 (impl_between_60_61_62.j3 kq l1 a2 x14_28 a0_0 a0_1 = some (r1,r2,r3)) ∧ Aside0 (kq ≤ kj24) ∧ Aside0 (wc.heap[gb219]? = some (.cells #[.int .i64 a0_0,.int .i64 a0_1] 27 (0,0))) ∧ Aside0 (wc.heap[gb220]? = some (.cells #[.int .i64 x221000_24,.int .i64 x221001_24] 40 (0,0))) ∧ Aside0 (Below w.heap.size w wc))
     case first =>
      have H:=HC29.out
      clear HC29
      have H':=zM H
      clear H
      go_wp2
      go_loopg [14] kj24 (fun kq v14 w'=>∃ (x14_3:Int),v14 = .int .i64 x14_3 ∧ Aside0 (impl_between_60_61_62.l0 kq l1 a2 x14_3 a0_0 a0_1 = some (r1,r2,r3)) ∧ Aside0 (kq ≤ kj24) ∧ Aside0 (w'.heap[gb219]? = some (.cells #[.int .i64 a0_0,.int .i64 a0_1] 27 (0,0))) ∧ Aside0 (w'.heap[gb220]? = some (.cells #[.int .i64 x221000_24,.int .i64 x221001_24] 40 (0,0))) ∧ Aside0 (Below w.heap.size w w'))
      case atStart=>exact ⟨(0),(by first|rfl|(simp;done)|(simp [*];done)),H',⟨Nat.le_refl _⟩,⟨by (with_reducible repeat (first|refine bA ?_ _|refine bB ?_|refine bC ?_ _));exact BK219.out⟩,⟨by (with_reducible repeat (first|refine bA ?_ _|refine bB ?_|refine bC ?_ _));exact BK220.out⟩,⟨by repeat (first|(with_reducible first|exact HB.out|apply bE|apply bD|apply bF|refine below_set ?_ GE219.out|refine below_set ?_ GE220.out)|exact HB.out)⟩⟩
      case round =>
       clear H'
       try clear c1
       try clear c2
       try clear p2
       try clear q2
       try clear hx2
       try clear qi2
       try clear c5
       try clear c6
       try clear p6
       try clear c7
       try clear c11
       try clear c12
       try clear c12b0
       try clear c12b1
       try clear c15
       try clear c15b0
       try clear c16
       try clear c16b0
       try clear p22
       try clear q22
       try clear hx22
       try clear qi22
       try clear c26
       try clear c27
       try clear hcz28_0
       try clear hcz28_1
       try clear hfz28_0
       try clear hfz28_1
       try clear hx222_0
       try clear hx222_1
       try clear hx224_0
       try clear hx224_1
       try clear p2
       try clear p22
       try clear p222
       try clear p224
       try clear p6
       try clear q2
       try clear q22
       try clear q222
       try clear q224
       obtain ⟨x14_3,rfl,HA,HK3,BK219,BK220,HB⟩:=hrel
       cases gk with
       | zero=>exact absurd HA.out (by simp [impl_between_60_61_62.l0])
       | succ k3 =>
        have H:=HA.out
        clear HA
        simp only [impl_between_60_61_62.l0] at H
        by_cases c30:(wrap64 (x14_3 + 1)) < (l1.length:Int)
        ·rw [if_pos c30] at H
         have c30b0:decide ((wrap64 (x14_3 + 1)) < (l1.length:Int)) = true:=decide_eq_true c30
         clear c30
         (first|rw [c30b0]|(simp only [i64_w,i32_w];rw [c30b0])|skip)
         obtain ⟨ji31,hji31⟩:∃ j_:Int,(wrap64 (x14_3 + 1)) = j_:=⟨_,rfl⟩
         replace H:(if 0 ≤ (ji31) then ((impl_timeOf.f ((rd_T38 l1 (ji31)).f0) ((rd_T38 l1 (ji31)).f1)).bind fun t228=>(if t228 ≤ a2 then (impl_between_60_61_62.l0 k3 l1 a2 ji31 a0_0 a0_1) else (impl_between_60_61_62.j3 k3 l1 a2 x14_3 a0_0 a0_1))) else (none)) = some (r1,r2,r3):=by first|(rw [hji31] at H;exact H)|(simp only [hji31] at H ⊢;exact H)
         (try rw [hji31] at c30)
         (try rw [hji31] at c30b0)
         have hji31w:(IntKind.i64.wrap (x14_3 + 1)) = ji31:=(i64_w _).trans hji31
         by_cases c32:0 ≤ (ji31)
         ·rw [if_pos c32] at H
          have c32b0:decide (0 ≤ (ji31)) = true:=decide_eq_true c32
          clear c32
          replace H:=zO H
          obtain ⟨t228,A330,H⟩:=H
          replace H:(if t228 ≤ a2 then (impl_between_60_61_62.l0 k3 l1 a2 ji31 a0_0 a0_1) else (impl_between_60_61_62.j3 k3 l1 a2 x14_3 a0_0 a0_1)) = some (r1,r2,r3):=H
          have A33:=zM A330
          clear A330
          by_cases c34:t228 ≤ a2
          ·rw [if_pos c34] at H
           have c34b0:decide (t228 ≤ a2) = true:=decide_eq_true c34
           clear c34
           have H':=zM H
           clear H
           have p227:0 ≤ ((ji31):Int):=of_decide_eq_true (by first|(with_reducible assumption)|assumption)
           have q227:(ji31) < (l1.length:Int):=of_decide_eq_true (by first|(with_reducible assumption)|assumption)
           obtain ⟨ad227,e227,hx227_0,hx227_1⟩:=at_T38 HR1.out (ji31) p227 q227
           cases e227
           replace hx227_0:=(HB.out.cell (World.block_lt_of_cell? w _ hx227_0)).trans hx227_0
           replace hx227_1:=(HB.out.cell (World.block_lt_of_cell? w _ hx227_1)).trans hx227_1
           replace p227:=eq_true p227
           replace q227:=eq_true q227
           go_wp2_with (first|(go_at_call 60;(with_reducible refine (impl_timeOf.calls ((rd_T38 l1 (ji31)).f0) ((rd_T38 l1 (ji31)).f1) t228 _ A33.out).mono ?_);rintro e w35 ⟨rfl,hb⟩;have n0_:=zM (blk_below (g:=gb219) (o:=.cells #[.int .i64 a0_0,.int .i64 a0_1] 27 (0,0)) (by (with_reducible repeat (first|refine bA ?_ _|refine bB ?_|refine bC ?_ _));exact BK219.out) hb);have n1_:=zM (blk_below (g:=gb220) (o:=.cells #[.int .i64 x221000_24,.int .i64 x221001_24] 40 (0,0)) (by (with_reducible repeat (first|refine bA ?_ _|refine bB ?_|refine bC ?_ _));exact BK220.out) hb);have n2_:=zM (bG (by repeat (first|(with_reducible first|exact HB.out|apply bE|apply bD|apply bF|refine below_set ?_ GE219.out|refine below_set ?_ GE220.out)|exact HB.out)) hb);clear BK219;clear BK220;clear HB;have BK219:=n0_;have BK220:=n1_;have HB:=n2_;clear n0_ n1_ n2_;(try clear hb);(try clear hk);(try clear hi)))
           go_roundg k3
           case measure=>have:=HJ6.out;have:=HJ24.out;have:=HK3.out;omega
           case rel=>exact ⟨(ji31),(by first|rfl|(simp;done)|(simp only [← hji31] <;> (first|rfl|simp))|(simp [*];done)),H',⟨by have:=HJ6.out;have:=HJ24.out;have:=HK3.out;omega⟩,⟨by (with_reducible repeat (first|refine bA ?_ _|refine bB ?_|refine bC ?_ _));exact BK219.out⟩,⟨by (with_reducible repeat (first|refine bA ?_ _|refine bB ?_|refine bC ?_ _));exact BK220.out⟩,⟨by repeat (first|(with_reducible first|exact HB.out|apply bE|apply bD|apply bF|refine below_set ?_ GE219.out|refine below_set ?_ GE220.out)|exact HB.out)⟩⟩
          ·rw [if_neg c34] at H
           have c34b0:decide (t228 ≤ a2) = false:=decide_eq_false c34
           clear c34
           have H':=zM H
           clear H
           have p227:0 ≤ ((ji31):Int):=of_decide_eq_true (by first|(with_reducible assumption)|assumption)
           have q227:(ji31) < (l1.length:Int):=of_decide_eq_true (by first|(with_reducible assumption)|assumption)
           obtain ⟨ad227,e227,hx227_0,hx227_1⟩:=at_T38 HR1.out (ji31) p227 q227
           cases e227
           replace hx227_0:=(HB.out.cell (World.block_lt_of_cell? w _ hx227_0)).trans hx227_0
           replace hx227_1:=(HB.out.cell (World.block_lt_of_cell? w _ hx227_1)).trans hx227_1
           replace p227:=eq_true p227
           replace q227:=eq_true q227
           go_wp2_with (first|(go_at_call 60;(with_reducible refine (impl_timeOf.calls ((rd_T38 l1 (ji31)).f0) ((rd_T38 l1 (ji31)).f1) t228 _ A33.out).mono ?_);rintro e w36 ⟨rfl,hb⟩;have n0_:=zM (blk_below (g:=gb219) (o:=.cells #[.int .i64 a0_0,.int .i64 a0_1] 27 (0,0)) (by (with_reducible repeat (first|refine bA ?_ _|refine bB ?_|refine bC ?_ _));exact BK219.out) hb);have n1_:=zM (blk_below (g:=gb220) (o:=.cells #[.int .i64 x221000_24,.int .i64 x221001_24] 40 (0,0)) (by (with_reducible repeat (first|refine bA ?_ _|refine bB ?_|refine bC ?_ _));exact BK220.out) hb);have n2_:=zM (bG (by repeat (first|(with_reducible first|exact HB.out|apply bE|apply bD|apply bF|refine below_set ?_ GE219.out|refine below_set ?_ GE220.out)|exact HB.out)) hb);clear BK219;clear BK220;clear HB;have BK219:=n0_;have BK220:=n1_;have HB:=n2_;clear n0_ n1_ n2_;(try clear hb);(try clear hk);(try clear hi)))
           go_meet
           case rel=>exact ⟨_,(x14_3),(by first|rfl|(simp;done)|(simp [*];done)),H',⟨by have:=HJ6.out;have:=HJ24.out;have:=HK3.out;first|omega|exact Nat.le_refl _⟩,⟨by (with_reducible repeat (first|refine bA ?_ _|refine bB ?_|refine bC ?_ _));exact BK219.out⟩,⟨by (with_reducible repeat (first|refine bA ?_ _|refine bB ?_|refine bC ?_ _));exact BK220.out⟩,⟨by repeat (first|(with_reducible first|exact HB.out|apply bE|apply bD|apply bF|refine below_set ?_ GE219.out|refine below_set ?_ GE220.out)|exact HB.out)⟩⟩
         ·rw [if_neg c32] at H
          exact absurd H (by simp)
        ·rw [if_neg c30] at H
         have c30b0:decide ((wrap64 (x14_3 + 1)) < (l1.length:Int)) = false:=decide_eq_false c30
         clear c30
         (first|rw [c30b0]|(simp only [i64_w,i32_w];rw [c30b0])|skip)
         have H':=zM H
         clear H
         go_wp2
         go_meet
         case rel=>exact ⟨_,(x14_3),(by first|rfl|(simp;done)|(simp [*];done)),H',⟨by have:=HJ6.out;have:=HJ24.out;have:=HK3.out;first|omega|exact Nat.le_refl _⟩,⟨by (with_reducible repeat (first|refine bA ?_ _|refine bB ?_|refine bC ?_ _));exact BK219.out⟩,⟨by (with_reducible repeat (first|refine bA ?_ _|refine bB ?_|refine bC ?_ _));exact BK220.out⟩,⟨by repeat (first|(with_reducible first|exact HB.out|apply bE|apply bD|apply bF|refine below_set ?_ GE219.out|refine below_set ?_ GE220.out)|exact HB.out)⟩⟩
     case rest =>
      clear HC29
      try clear c1
      try clear c2
      try clear p2
      try clear q2
      try clear hx2
      try clear qi2
      try clear c3
      try clear c5
      try clear c6
      try clear p6
      try clear c7
      try clear c11
      try clear c12
      try clear c12b0
      try clear c12b1
      try clear c15
      try clear c15b0
      try clear c16
      try clear c16b0
      try clear p22
      try clear q22
      try clear hx22
      try clear qi22
      try clear c26
      try clear c27
      try clear c30
      try clear c30b0
      try clear c32
      try clear c32b0
      try clear c34
      try clear c34b0
      try clear hcz28_0
      try clear hcz28_1
      try clear hfz28_0
      try clear hfz28_1
      try clear hx222_0
      try clear hx222_1
      try clear hx224_0
      try clear hx224_1
      try clear hx227_0
      try clear hx227_1
      try clear p2
      try clear p22
      try clear p222
      try clear p224
      try clear p227
      try clear p6
      try clear q2
      try clear q22
      try clear q222
      try clear q224
      try clear q227
      obtain ⟨kq,x14_28,rfl,HA,HJ28,BK219,BK220,HB⟩:=hcut
      cases kq with
      | zero=>exact absurd HA.out (by simp [impl_between_60_61_62.j3])
      | succ kj28 =>
       have H:=HA.out
       clear HA
       simp only [impl_between_60_61_62.j3] at H
       by_cases c37:0 ≤ x14_28
       ·rw [if_pos c37] at H
        have c37b0:decide (0 ≤ x14_28) = true:=decide_eq_true c37
        clear c37
        by_cases c38:x14_28 < (l1.length:Int)
        ·rw [if_pos c38] at H
         have c38b0:decide (x14_28 < (l1.length:Int)) = true:=decide_eq_true c38
         clear c38
         replace H:=zO H
         obtain ⟨t230,A390,H⟩:=H
         replace H:((impl_counts.f a0_0 a0_1 (wrap64 (a2 - t230))).bind fun bt231=>(if bt231.2.2 = true then (impl_between_60_61_62.j4 kj28 l1 a2 x14_28 a0_0 a0_1 bt231.1 bt231.2.1) else (some (0,0,false)))) = some (r1,r2,r3):=H
         have A39:=zM A390
         clear A390
         replace H:=zO H
         obtain ⟨⟨t231,t232,t233⟩,A400,H⟩:=H
         replace H:(if t233 = true then (impl_between_60_61_62.j4 kj28 l1 a2 x14_28 a0_0 a0_1 t231 t232) else (some (0,0,false))) = some (r1,r2,r3):=H
         have A40:=zM A400
         clear A400
         have HC41:=zM H
         clear H
         try go_wp2
         have n0_:=zM (bB BK219.out)
         have n1_:=zM (bB BK220.out)
         have n2_:=zM (bF HB.out)
         clear BK219
         clear BK220
         clear HB
         have BK219:=n0_
         have BK220:=n1_
         have HB:=n2_
         clear n0_ n1_ n2_
         have p229:0 ≤ (x14_28:Int):=of_decide_eq_true (by first|(with_reducible assumption)|assumption)
         have q229:x14_28 < (l1.length:Int):=of_decide_eq_true (by first|(with_reducible assumption)|assumption)
         obtain ⟨ad229,e229,hx229_0,hx229_1⟩:=at_T38 HR1.out x14_28 p229 q229
         have hw229_1:=hx229_1
         have hw229_0:=hx229_0
         cases e229
         replace hx229_0:=(HB.out.cell (World.block_lt_of_cell? w _ hx229_0)).trans hx229_0
         replace hx229_1:=(HB.out.cell (World.block_lt_of_cell? w _ hx229_1)).trans hx229_1
         replace p229:=eq_true p229
         replace q229:=eq_true q229
         refine start_ (n:=17) (S:=fun w'=>w'.cell? ⟨gb219,0,none⟩ = some (.int .i64 a0_0) ∧ w'.cell? ⟨gb219,1,none⟩ = some (.int .i64 a0_1) ∧ w'.cell? (ad229.add ((x14_28).toNat * 2)) = some (.int .i64 ((rd_T38 l1 x14_28).f0)) ∧ w'.cell? ⟨(ad229.add ((x14_28).toNat * 2)).block,(ad229.add ((x14_28).toNat * 2)).off + 1,none⟩ = some (.int .i64 ((rd_T38 l1 x14_28).f1))) (ds:=[]) #[false,false,false,false,false,false,false,false,false,false,false,false,false,false,false,false,false] (by kernel_rfl) rfl rfl ⟨(blk_cell BK219.out 0).trans rfl,(blk_cell BK219.out 1).trans rfl,((HB.out.cell (World.block_lt_of_cell? w _ hw229_0)).trans hw229_0),((HB.out.cell (World.block_lt_of_cell? w _ hw229_1)).trans hw229_1)⟩ (fun hHeld=>?_);refine with_tabW impl_between_60_61_62.tab6 impl_between_60_61_62.bits6 (fun HT_ HW_=>?_)
         generalize wc.drew = w42 at BK219 BK220 HB hx229_0 hx229_1 hHeld ⊢
         refine pure_ (i:=0) (N:=some 63) (v:=?_) (a':=?_) #[true,false,false,false,false,false,false,false,false,false,false,false,false,false,false,false,false] rfl rfl (any_of HT_.out (by kernel_rfl)) (fun _ _ _ h=>h) (Or.inl ⟨by rfl,?_⟩) ?_ ?_
         rotate_left
         ·intro w'
          go_simp
          with_reducible rfl
         rotate_left
         ·simp only [Act.put,zS,z0,z1,i64_w,i32_w]
          rfl
         refine pure_ (i:=2) (N:=some 65) (v:=?_) (a':=?_) #[true,false,true,false,false,false,false,false,false,false,false,false,false,false,false,false,false] rfl rfl (any_of HT_.out (by kernel_rfl)) (fun _ _ _ h=>h) (Or.inl ⟨by rfl,?_⟩) ?_ ?_
         rotate_left
         ·intro w'
          go_simp
          with_reducible rfl
         rotate_left
         ·simp only [Act.put,zS,z0,z1,i64_w,i32_w]
          rfl
         refine pure_ (i:=3) (N:=some 66) (v:=?_) (a':=?_) #[true,false,true,true,false,false,false,false,false,false,false,false,false,false,false,false,false] rfl rfl (any_of HT_.out (by kernel_rfl)) (fun _ _ _ h=>h) (Or.inl ⟨by rfl,?_⟩) ?_ ?_
         rotate_left
         ·intro w'
          go_simp
          with_reducible rfl
         rotate_left
         ·simp only [Act.put,zS,z0,z1,i64_w,i32_w]
          rfl
         refine pure_ (i:=4) (N:=some 67) (v:=?_) (a':=?_) #[true,false,true,true,true,false,false,false,false,false,false,false,false,false,false,false,false] rfl rfl (any_of HT_.out (by kernel_rfl)) (fun _ _ _ h=>h) (Or.inl ⟨by rfl,?_⟩) ?_ ?_
         rotate_left
         ·intro w'
          go_simp
          with_reducible rfl
         rotate_left
         ·simp only [Act.put,zS,z0,z1,i64_w,i32_w]
          rfl
         refine pure_ (i:=5) (N:=some 68) (v:=?_) (a':=?_) #[true,false,true,true,true,true,false,false,false,false,false,false,false,false,false,false,false] rfl rfl (any_of HT_.out (by kernel_rfl)) (fun _ _ _ h=>h) (Or.inl ⟨by rfl,?_⟩) ?_ ?_
         rotate_left
         ·intro w'
          go_simp
          with_reducible rfl
         rotate_left
         ·simp only [Act.put,zS,z0,z1,i64_w,i32_w]
          rfl
         refine pure_ (i:=6) (N:=some 69) (v:=?_) (a':=?_) #[true,false,true,true,true,true,true,false,false,false,false,false,false,false,false,false,false] rfl rfl (any_of HT_.out (by kernel_rfl)) (fun _ _ _ h=>h) (Or.inl ⟨by rfl,?_⟩) ?_ ?_
         rotate_left
         ·intro w'
          go_simp
          with_reducible rfl
         rotate_left
         ·simp only [Act.put,zS,z0,z1,i64_w,i32_w]
          rfl
         refine take_ (i:=1) (N:=some 64) (v:=?_) (a':=?_) #[true,true,true,true,true,true,true,false,false,false,false,false,false,false,false,false,false] rfl rfl (take_ofW HT_.out HW_.out (by kernel_rfl)) (fun _ _ _ h=>h) (Or.inl ⟨by rfl,?_⟩) hHeld ?_ ?_
         rotate_left
         ·rintro w' ⟨s0,s1,s2,s3⟩
          go_simp
          with_reducible rfl
         rotate_left
         ·simp only [Act.put,zS,z0,z1,i64_w,i32_w]
          rfl
         refine take_ (i:=7) (N:=some 70) (v:=?_) (a':=?_) #[true,true,true,true,true,true,true,true,false,false,false,false,false,false,false,false,false] rfl rfl (take_ofW HT_.out HW_.out (by kernel_rfl)) (fun _ _ _ h=>h) (Or.inl ⟨by rfl,?_⟩) hHeld ?_ ?_
         rotate_left
         ·rintro w' ⟨s0,s1,s2,s3⟩
          go_simp
          with_reducible rfl
         rotate_left
         ·simp only [Act.put,zS,z0,z1,i64_w,i32_w]
          rfl
         refine join_ (σ:=Nat) 2 #[true,true,true,true,true,true,true,true,true,true,true,true,true,true,true,false,false] (fun s_=>[(71,.int .i64 t230),(73,.tuple #[.agg #[.int .i64 t231,.int .i64 t232],.bool t233]),(15,.pointer (some ⟨s_,0,none⟩)),(72,.int .i64 (wrap64 (a2 - t230))),(62,.tuple #[.agg #[.int .i64 t231,.int .i64 t232],.bool t233]),(74,.agg #[.int .i64 t231,.int .i64 t232]),(75,.bool t233)]) (fun s_ w'=>(w'.cell? ⟨gb219,0,none⟩ = some (.int .i64 a0_0) ∧ w'.cell? ⟨gb219,1,none⟩ = some (.int .i64 a0_1) ∧ w'.cell? (ad229.add ((x14_28).toNat * 2)) = some (.int .i64 ((rd_T38 l1 x14_28).f0)) ∧ w'.cell? ⟨(ad229.add ((x14_28).toNat * 2)).block,(ad229.add ((x14_28).toNat * 2)).off + 1,none⟩ = some (.int .i64 ((rd_T38 l1 x14_28).f1))) ∧ (w'.heap[gb219]? = some (.cells #[.int .i64 a0_0,.int .i64 a0_1] 27 (0,0))) ∧ (w'.heap[gb220]? = some (.cells #[.int .i64 x221000_24,.int .i64 x221001_24] 40 (0,0))) ∧ (w'.heap[s_]? = some (.cells #[.int .i64 0,.int .i64 0] 40 (0,0))) ∧ (w.heap.size ≤ s_) ∧ (w.heap.size ≤ s_) ∧ (gb219 ≠ s_) ∧ (s_ ≠ gb219) ∧ (gb220 ≠ s_) ∧ (s_ ≠ gb220) ∧ (Below w.heap.size w w')) ?_ ?_
         rotate_left
         ·intro hCont
          refine two_ (i:=8) (j:=14) (Ni:=some 71) (Nj:=some 15) #[true,true,true,true,true,true,true,true,true,false,false,false,false,false,false,false,false] #[true,true,true,true,true,true,true,true,false,false,false,false,false,false,true,false,false] rfl rfl rfl rfl (two_of HT_.out (by kernel_rfl)) (by decide) (by decide) (fun K hK=>?_) (fun K hK=>?_)
          ·skip
           refine goesW_ Try.func60 (by kernel_rfl) rfl #[.agg #[.int .i64 ((rd_T38 l1 x14_28).f0),.int .i64 ((rd_T38 l1 x14_28).f1)]] (by rfl) rfl rfl (by (try simp only [List.map_toArray,List.map_cons,List.map_nil]);first|done|rfl) ?_
           with_reducible refine (impl_timeOf.calls ((rd_T38 l1 x14_28).f0) ((rd_T38 l1 x14_28).f1) t230 _ A39.out).mono ?_
           rintro e w43 ⟨rfl,hb⟩
           refine ⟨_,rfl,?_⟩
           have n0_:=zM (blk_below (g:=gb219) (o:=.cells #[.int .i64 a0_0,.int .i64 a0_1] 27 (0,0)) (by (with_reducible repeat (first|refine bA ?_ _|refine bB ?_|refine bC ?_ _));exact BK219.out) hb)
           have n1_:=zM (blk_below (g:=gb220) (o:=.cells #[.int .i64 x221000_24,.int .i64 x221001_24] 40 (0,0)) (by (with_reducible repeat (first|refine bA ?_ _|refine bB ?_|refine bC ?_ _));exact BK220.out) hb)
           have n2_:=zM (bG (by repeat (first|(with_reducible first|exact HB.out|apply bE|apply bD|apply bF|refine below_set ?_ GE219.out|refine below_set ?_ GE220.out)|exact HB.out)) hb)
           clear BK219
           clear BK220
           clear HB
           have BK219:=n0_
           have BK220:=n1_
           have HB:=n2_
           clear n0_ n1_ n2_
           (try clear hb)
           (try clear hb2)
           (try clear hk)
           (try clear hi)
           refine hK.out _ _ ⟨(blk_cell BK219.out 0).trans rfl,(blk_cell BK219.out 1).trans rfl,((HB.out.cell (World.block_lt_of_cell? w _ hw229_0)).trans hw229_0),((HB.out.cell (World.block_lt_of_cell? w _ hw229_1)).trans hw229_1)⟩ (fun hHeld=>?_)
           clear hK K
           refine norm_ (a':=?_) ?_ ?_
           rotate_left
           ·show Act.put _ (some 71) _ = _
            simp only [Act.put,zS,z0,z1,i64_w,i32_w]
            rfl
           refine pure_ (i:=9) (N:=some 72) (v:=?_) (a':=?_) #[true,true,true,true,true,true,true,true,true,true,false,false,false,false,false,false,false] rfl rfl (any_of HT_.out (by kernel_rfl)) (fun _ _ _ h=>h) (Or.inl ⟨by rfl,?_⟩) ?_ ?_
           rotate_left
           ·intro w'
            go_simp
            with_reducible rfl
           rotate_left
           ·simp only [Act.put,zS,z0,z1,i64_w,i32_w]
            rfl
           refine two_ (i:=10) (j:=14) (Ni:=some 73) (Nj:=some 15) #[true,true,true,true,true,true,true,true,true,true,true,false,false,false,false,false,false] #[true,true,true,true,true,true,true,true,true,true,false,false,false,false,true,false,false] rfl rfl rfl rfl (two_of HT_.out (by kernel_rfl)) (by decide) (by decide) (fun K hK=>?_) (fun K hK=>?_)
           ·skip
            refine goesW_ Try.func62 (by kernel_rfl) rfl #[.agg #[.int .i64 a0_0,.int .i64 a0_1],.int .i64 (wrap64 (a2 - t230))] (by rfl) rfl rfl (by (try simp only [List.map_toArray,List.map_cons,List.map_nil]);first|done|rfl) ?_
            with_reducible refine (impl_counts.calls a0_0 a0_1 (wrap64 (a2 - t230)) t231 t232 t233 _ A40.out).mono ?_
            rintro e w44 ⟨rfl,hb⟩
            refine ⟨_,rfl,?_⟩
            have n0_:=zM (blk_below (g:=gb219) (o:=.cells #[.int .i64 a0_0,.int .i64 a0_1] 27 (0,0)) (by (with_reducible repeat (first|refine bA ?_ _|refine bB ?_|refine bC ?_ _));exact BK219.out) hb)
            have n1_:=zM (blk_below (g:=gb220) (o:=.cells #[.int .i64 x221000_24,.int .i64 x221001_24] 40 (0,0)) (by (with_reducible repeat (first|refine bA ?_ _|refine bB ?_|refine bC ?_ _));exact BK220.out) hb)
            have n2_:=zM (bG (by repeat (first|(with_reducible first|exact HB.out|apply bE|apply bD|apply bF|refine below_set ?_ GE219.out|refine below_set ?_ GE220.out)|exact HB.out)) hb)
            clear BK219
            clear BK220
            clear HB
            have BK219:=n0_
            have BK220:=n1_
            have HB:=n2_
            clear n0_ n1_ n2_
            (try clear hb)
            (try clear hb2)
            (try clear hk)
            (try clear hi)
            refine hK.out _ _ ⟨(blk_cell BK219.out 0).trans rfl,(blk_cell BK219.out 1).trans rfl,((HB.out.cell (World.block_lt_of_cell? w _ hw229_0)).trans hw229_0),((HB.out.cell (World.block_lt_of_cell? w _ hw229_1)).trans hw229_1)⟩ (fun hHeld=>?_)
            clear hK K
            refine norm_ (a':=?_) ?_ ?_
            rotate_left
            ·show Act.put _ (some 73) _ = _
             simp only [Act.put,zS,z0,z1,i64_w,i32_w]
             rfl
            refine pure_ (i:=11) (N:=some 62) (v:=?_) (a':=?_) #[true,true,true,true,true,true,true,true,true,true,true,true,false,false,false,false,false] rfl rfl (any_of HT_.out (by kernel_rfl)) (fun _ _ _ h=>h) (Or.inl ⟨by rfl,?_⟩) ?_ ?_
            rotate_left
            ·intro w'
             go_simp
             with_reducible rfl
            rotate_left
            ·simp only [Act.put,zS,z0,z1,i64_w,i32_w]
             rfl
            refine pure_ (i:=12) (N:=some 74) (v:=?_) (a':=?_) #[true,true,true,true,true,true,true,true,true,true,true,true,true,false,false,false,false] rfl rfl (any_of HT_.out (by kernel_rfl)) (fun _ _ _ h=>h) (Or.inl ⟨by rfl,?_⟩) ?_ ?_
            rotate_left
            ·intro w'
             go_simp
             with_reducible rfl
            rotate_left
            ·simp only [Act.put,zS,z0,z1,i64_w,i32_w]
             rfl
            refine pure_ (i:=13) (N:=some 75) (v:=?_) (a':=?_) #[true,true,true,true,true,true,true,true,true,true,true,true,true,true,false,false,false] rfl rfl (any_of HT_.out (by kernel_rfl)) (fun _ _ _ h=>h) (Or.inl ⟨by rfl,?_⟩) ?_ ?_
            rotate_left
            ·intro w'
             go_simp
             with_reducible rfl
            rotate_left
            ·simp only [Act.put,zS,z0,z1,i64_w,i32_w]
             rfl
            refine one_ (i:=14) (N:=some 15) #[true,true,true,true,true,true,true,true,true,true,true,true,true,true,true,false,false] rfl rfl (one_of HT_.out (by kernel_rfl)) (by decide) (fun K hK=>?_)
            refine box_step ?hg (N:=15) ?hd (cs:=#[.int .i64 0,.int .i64 0]) (t:=40) ?hr ?_;(case hd=>rfl);(case hg=>rfl);(case hr=>first|(go_simp;done)|(go_simp;rfl))
            intro gb234 hg w45 hbox hb
            have n0_:=zM (blk_below (g:=gb219) (o:=.cells #[.int .i64 a0_0,.int .i64 a0_1] 27 (0,0)) (by (with_reducible repeat (first|refine bA ?_ _|refine bB ?_|refine bC ?_ _));exact BK219.out) hb)
            have n1_:=zM (blk_below (g:=gb220) (o:=.cells #[.int .i64 x221000_24,.int .i64 x221001_24] 40 (0,0)) (by (with_reducible repeat (first|refine bA ?_ _|refine bB ?_|refine bC ?_ _));exact BK220.out) hb)
            have n2_:=zM (bG (by repeat (first|(with_reducible first|exact HB.out|apply bE|apply bD|apply bF|refine below_set ?_ GE219.out|refine below_set ?_ GE220.out)|exact HB.out)) hb)
            have n3_:=zM (hbox)
            have n4_:=zM ((by rw [hg];exact (below_size (by repeat (first|(with_reducible first|exact HB.out|apply bE|apply bD|apply bF|refine below_set ?_ GE219.out|refine below_set ?_ GE220.out)|exact HB.out))):w.heap.size ≤ gb234))
            have n5_:=zM ((by rw [hg];exact (below_size (by repeat (first|(with_reducible first|exact HB.out|apply bE|apply bD|apply bF|refine below_set ?_ GE219.out|refine below_set ?_ GE220.out)|exact HB.out))):w.heap.size ≤ gb234))
            have n6_:=zM ((by rw [hg];exact Nat.ne_of_lt (blk_lt (g:=gb219) (o:=.cells #[.int .i64 a0_0,.int .i64 a0_1] 27 (0,0)) (by (with_reducible repeat (first|refine bA ?_ _|refine bB ?_|refine bC ?_ _));exact BK219.out)):gb219 ≠ gb234))
            have n7_:=zM ((by rw [hg];exact Nat.ne_of_gt (blk_lt (g:=gb219) (o:=.cells #[.int .i64 a0_0,.int .i64 a0_1] 27 (0,0)) (by (with_reducible repeat (first|refine bA ?_ _|refine bB ?_|refine bC ?_ _));exact BK219.out)):gb234 ≠ gb219))
            have n8_:=zM ((by rw [hg];exact Nat.ne_of_lt (blk_lt (g:=gb220) (o:=.cells #[.int .i64 x221000_24,.int .i64 x221001_24] 40 (0,0)) (by (with_reducible repeat (first|refine bA ?_ _|refine bB ?_|refine bC ?_ _));exact BK220.out)):gb220 ≠ gb234))
            have n9_:=zM ((by rw [hg];exact Nat.ne_of_gt (blk_lt (g:=gb220) (o:=.cells #[.int .i64 x221000_24,.int .i64 x221001_24] 40 (0,0)) (by (with_reducible repeat (first|refine bA ?_ _|refine bB ?_|refine bC ?_ _));exact BK220.out)):gb234 ≠ gb220))
            clear BK219
            clear BK220
            clear HB
            have BK219:=n0_
            have BK220:=n1_
            have HB:=n2_
            have BK234:=n3_
            have GW234:=n4_
            have GE234:=n5_
            have NB219_234:=n6_
            have NB234_219:=n7_
            have NB220_234:=n8_
            have NB234_220:=n9_
            clear n0_ n1_ n2_ n3_ n4_ n5_ n6_ n7_ n8_ n9_
            clear hb hbox hg
            refine hK.out _ _ ⟨(blk_cell BK219.out 0).trans rfl,(blk_cell BK219.out 1).trans rfl,((HB.out.cell (World.block_lt_of_cell? w _ hw229_0)).trans hw229_0),((HB.out.cell (World.block_lt_of_cell? w _ hw229_1)).trans hw229_1)⟩ (fun hHeld=>?_)
            clear hK K
            refine norm_ (a':=?_) ?_ ?_
            rotate_left
            ·show Act.put _ (some 15) _ = _
             simp only [Act.put,zS,z0,z1,i64_w,i32_w]
             rfl
            exact norm_ (by simp only [putAll,Act.put,zS,z0,z1]) (hCont (gb234) _ ⟨hHeld,(by (with_reducible repeat (first|refine bA ?_ _|refine bB ?_|refine bC ?_ _));exact BK219.out),(by (with_reducible repeat (first|refine bA ?_ _|refine bB ?_|refine bC ?_ _));exact BK220.out),(by (with_reducible repeat (first|refine bA ?_ _|refine bB ?_|refine bC ?_ _));exact BK234.out),GW234.out,GE234.out,NB219_234.out,NB234_219.out,NB220_234.out,NB234_220.out,(by repeat (first|(with_reducible first|exact HB.out|apply bE|apply bD|apply bF|refine below_set ?_ GE219.out|refine below_set ?_ GE220.out|refine below_set ?_ GE234.out)|exact HB.out))⟩)
           ·skip
            refine box_step ?hg (N:=15) ?hd (cs:=#[.int .i64 0,.int .i64 0]) (t:=40) ?hr ?_;(case hd=>rfl);(case hg=>rfl);(case hr=>first|(go_simp;done)|(go_simp;rfl))
            intro gb234 hg w44 hbox hb
            have n0_:=zM (blk_below (g:=gb219) (o:=.cells #[.int .i64 a0_0,.int .i64 a0_1] 27 (0,0)) (by (with_reducible repeat (first|refine bA ?_ _|refine bB ?_|refine bC ?_ _));exact BK219.out) hb)
            have n1_:=zM (blk_below (g:=gb220) (o:=.cells #[.int .i64 x221000_24,.int .i64 x221001_24] 40 (0,0)) (by (with_reducible repeat (first|refine bA ?_ _|refine bB ?_|refine bC ?_ _));exact BK220.out) hb)
            have n2_:=zM (bG (by repeat (first|(with_reducible first|exact HB.out|apply bE|apply bD|apply bF|refine below_set ?_ GE219.out|refine below_set ?_ GE220.out)|exact HB.out)) hb)
            have n3_:=zM (hbox)
            have n4_:=zM ((by rw [hg];exact (below_size (by repeat (first|(with_reducible first|exact HB.out|apply bE|apply bD|apply bF|refine below_set ?_ GE219.out|refine below_set ?_ GE220.out)|exact HB.out))):w.heap.size ≤ gb234))
            have n5_:=zM ((by rw [hg];exact (below_size (by repeat (first|(with_reducible first|exact HB.out|apply bE|apply bD|apply bF|refine below_set ?_ GE219.out|refine below_set ?_ GE220.out)|exact HB.out))):w.heap.size ≤ gb234))
            have n6_:=zM ((by rw [hg];exact Nat.ne_of_lt (blk_lt (g:=gb219) (o:=.cells #[.int .i64 a0_0,.int .i64 a0_1] 27 (0,0)) (by (with_reducible repeat (first|refine bA ?_ _|refine bB ?_|refine bC ?_ _));exact BK219.out)):gb219 ≠ gb234))
            have n7_:=zM ((by rw [hg];exact Nat.ne_of_gt (blk_lt (g:=gb219) (o:=.cells #[.int .i64 a0_0,.int .i64 a0_1] 27 (0,0)) (by (with_reducible repeat (first|refine bA ?_ _|refine bB ?_|refine bC ?_ _));exact BK219.out)):gb234 ≠ gb219))
            have n8_:=zM ((by rw [hg];exact Nat.ne_of_lt (blk_lt (g:=gb220) (o:=.cells #[.int .i64 x221000_24,.int .i64 x221001_24] 40 (0,0)) (by (with_reducible repeat (first|refine bA ?_ _|refine bB ?_|refine bC ?_ _));exact BK220.out)):gb220 ≠ gb234))
            have n9_:=zM ((by rw [hg];exact Nat.ne_of_gt (blk_lt (g:=gb220) (o:=.cells #[.int .i64 x221000_24,.int .i64 x221001_24] 40 (0,0)) (by (with_reducible repeat (first|refine bA ?_ _|refine bB ?_|refine bC ?_ _));exact BK220.out)):gb234 ≠ gb220))
            clear BK219
            clear BK220
            clear HB
            have BK219:=n0_
            have BK220:=n1_
            have HB:=n2_
            have BK234:=n3_
            have GW234:=n4_
            have GE234:=n5_
            have NB219_234:=n6_
            have NB234_219:=n7_
            have NB220_234:=n8_
            have NB234_220:=n9_
            clear n0_ n1_ n2_ n3_ n4_ n5_ n6_ n7_ n8_ n9_
            clear hb hbox hg
            refine hK.out _ _ ⟨(blk_cell BK219.out 0).trans rfl,(blk_cell BK219.out 1).trans rfl,((HB.out.cell (World.block_lt_of_cell? w _ hw229_0)).trans hw229_0),((HB.out.cell (World.block_lt_of_cell? w _ hw229_1)).trans hw229_1)⟩ (fun hHeld=>?_)
            clear hK K
            refine norm_ (a':=?_) ?_ ?_
            rotate_left
            ·show Act.put _ (some 15) _ = _
             simp only [Act.put,zS,z0,z1,i64_w,i32_w]
             rfl
            refine one_ (i:=10) (N:=some 73) #[true,true,true,true,true,true,true,true,true,true,true,false,false,false,true,false,false] rfl rfl (one_of HT_.out (by kernel_rfl)) (by decide) (fun K hK=>?_)
            refine goesW_ Try.func62 (by kernel_rfl) rfl #[.agg #[.int .i64 a0_0,.int .i64 a0_1],.int .i64 (wrap64 (a2 - t230))] (by rfl) rfl rfl (by (try simp only [List.map_toArray,List.map_cons,List.map_nil]);first|done|rfl) ?_
            with_reducible refine (impl_counts.calls a0_0 a0_1 (wrap64 (a2 - t230)) t231 t232 t233 _ A40.out).mono ?_
            rintro e w45 ⟨rfl,hb⟩
            refine ⟨_,rfl,?_⟩
            have n0_:=zM (blk_below (g:=gb219) (o:=.cells #[.int .i64 a0_0,.int .i64 a0_1] 27 (0,0)) (by (with_reducible repeat (first|refine bA ?_ _|refine bB ?_|refine bC ?_ _));exact BK219.out) hb)
            have n1_:=zM (blk_below (g:=gb220) (o:=.cells #[.int .i64 x221000_24,.int .i64 x221001_24] 40 (0,0)) (by (with_reducible repeat (first|refine bA ?_ _|refine bB ?_|refine bC ?_ _));exact BK220.out) hb)
            have n2_:=zM (blk_below (g:=gb234) (o:=.cells #[.int .i64 0,.int .i64 0] 40 (0,0)) (by (with_reducible repeat (first|refine bA ?_ _|refine bB ?_|refine bC ?_ _));exact BK234.out) hb)
            have n3_:=zM (bG (by repeat (first|(with_reducible first|exact HB.out|apply bE|apply bD|apply bF|refine below_set ?_ GE219.out|refine below_set ?_ GE220.out|refine below_set ?_ GE234.out)|exact HB.out)) hb)
            clear BK219
            clear BK220
            clear BK234
            clear HB
            have BK219:=n0_
            have BK220:=n1_
            have BK234:=n2_
            have HB:=n3_
            clear n0_ n1_ n2_ n3_
            (try clear hb)
            (try clear hb2)
            (try clear hk)
            (try clear hi)
            refine hK.out _ _ ⟨(blk_cell BK219.out 0).trans rfl,(blk_cell BK219.out 1).trans rfl,((HB.out.cell (World.block_lt_of_cell? w _ hw229_0)).trans hw229_0),((HB.out.cell (World.block_lt_of_cell? w _ hw229_1)).trans hw229_1)⟩ (fun hHeld=>?_)
            clear hK K
            refine norm_ (a':=?_) ?_ ?_
            rotate_left
            ·show Act.put _ (some 73) _ = _
             simp only [Act.put,zS,z0,z1,i64_w,i32_w]
             rfl
            refine pure_ (i:=11) (N:=some 62) (v:=?_) (a':=?_) #[true,true,true,true,true,true,true,true,true,true,true,true,false,false,true,false,false] rfl rfl (any_of HT_.out (by kernel_rfl)) (fun _ _ _ h=>h) (Or.inl ⟨by rfl,?_⟩) ?_ ?_
            rotate_left
            ·intro w'
             go_simp
             with_reducible rfl
            rotate_left
            ·simp only [Act.put,zS,z0,z1,i64_w,i32_w]
             rfl
            refine pure_ (i:=12) (N:=some 74) (v:=?_) (a':=?_) #[true,true,true,true,true,true,true,true,true,true,true,true,true,false,true,false,false] rfl rfl (any_of HT_.out (by kernel_rfl)) (fun _ _ _ h=>h) (Or.inl ⟨by rfl,?_⟩) ?_ ?_
            rotate_left
            ·intro w'
             go_simp
             with_reducible rfl
            rotate_left
            ·simp only [Act.put,zS,z0,z1,i64_w,i32_w]
             rfl
            refine pure_ (i:=13) (N:=some 75) (v:=?_) (a':=?_) #[true,true,true,true,true,true,true,true,true,true,true,true,true,true,true,false,false] rfl rfl (any_of HT_.out (by kernel_rfl)) (fun _ _ _ h=>h) (Or.inl ⟨by rfl,?_⟩) ?_ ?_
            rotate_left
            ·intro w'
             go_simp
             with_reducible rfl
            rotate_left
            ·simp only [Act.put,zS,z0,z1,i64_w,i32_w]
             rfl
            exact norm_ (by simp only [putAll,Act.put,zS,z0,z1]) (hCont (gb234) _ ⟨hHeld,(by (with_reducible repeat (first|refine bA ?_ _|refine bB ?_|refine bC ?_ _));exact BK219.out),(by (with_reducible repeat (first|refine bA ?_ _|refine bB ?_|refine bC ?_ _));exact BK220.out),(by (with_reducible repeat (first|refine bA ?_ _|refine bB ?_|refine bC ?_ _));exact BK234.out),GW234.out,GE234.out,NB219_234.out,NB234_219.out,NB220_234.out,NB234_220.out,(by repeat (first|(with_reducible first|exact HB.out|apply bE|apply bD|apply bF|refine below_set ?_ GE219.out|refine below_set ?_ GE220.out|refine below_set ?_ GE234.out)|exact HB.out))⟩)
          ·skip
           refine box_step ?hg (N:=15) ?hd (cs:=#[.int .i64 0,.int .i64 0]) (t:=40) ?hr ?_;(case hd=>rfl);(case hg=>rfl);(case hr=>first|(go_simp;done)|(go_simp;rfl))
           intro gb234 hg w43 hbox hb
           have n0_:=zM (blk_below (g:=gb219) (o:=.cells #[.int .i64 a0_0,.int .i64 a0_1] 27 (0,0)) (by (with_reducible repeat (first|refine bA ?_ _|refine bB ?_|refine bC ?_ _));exact BK219.out) hb)
           have n1_:=zM (blk_below (g:=gb220) (o:=.cells #[.int .i64 x221000_24,.int .i64 x221001_24] 40 (0,0)) (by (with_reducible repeat (first|refine bA ?_ _|refine bB ?_|refine bC ?_ _));exact BK220.out) hb)
           have n2_:=zM (bG (by repeat (first|(with_reducible first|exact HB.out|apply bE|apply bD|apply bF|refine below_set ?_ GE219.out|refine below_set ?_ GE220.out)|exact HB.out)) hb)
           have n3_:=zM (hbox)
           have n4_:=zM ((by rw [hg];exact (below_size (by repeat (first|(with_reducible first|exact HB.out|apply bE|apply bD|apply bF|refine below_set ?_ GE219.out|refine below_set ?_ GE220.out)|exact HB.out))):w.heap.size ≤ gb234))
           have n5_:=zM ((by rw [hg];exact (below_size (by repeat (first|(with_reducible first|exact HB.out|apply bE|apply bD|apply bF|refine below_set ?_ GE219.out|refine below_set ?_ GE220.out)|exact HB.out))):w.heap.size ≤ gb234))
           have n6_:=zM ((by rw [hg];exact Nat.ne_of_lt (blk_lt (g:=gb219) (o:=.cells #[.int .i64 a0_0,.int .i64 a0_1] 27 (0,0)) (by (with_reducible repeat (first|refine bA ?_ _|refine bB ?_|refine bC ?_ _));exact BK219.out)):gb219 ≠ gb234))
           have n7_:=zM ((by rw [hg];exact Nat.ne_of_gt (blk_lt (g:=gb219) (o:=.cells #[.int .i64 a0_0,.int .i64 a0_1] 27 (0,0)) (by (with_reducible repeat (first|refine bA ?_ _|refine bB ?_|refine bC ?_ _));exact BK219.out)):gb234 ≠ gb219))
           have n8_:=zM ((by rw [hg];exact Nat.ne_of_lt (blk_lt (g:=gb220) (o:=.cells #[.int .i64 x221000_24,.int .i64 x221001_24] 40 (0,0)) (by (with_reducible repeat (first|refine bA ?_ _|refine bB ?_|refine bC ?_ _));exact BK220.out)):gb220 ≠ gb234))
           have n9_:=zM ((by rw [hg];exact Nat.ne_of_gt (blk_lt (g:=gb220) (o:=.cells #[.int .i64 x221000_24,.int .i64 x221001_24] 40 (0,0)) (by (with_reducible repeat (first|refine bA ?_ _|refine bB ?_|refine bC ?_ _));exact BK220.out)):gb234 ≠ gb220))
           clear BK219
           clear BK220
           clear HB
           have BK219:=n0_
           have BK220:=n1_
           have HB:=n2_
           have BK234:=n3_
           have GW234:=n4_
           have GE234:=n5_
           have NB219_234:=n6_
           have NB234_219:=n7_
           have NB220_234:=n8_
           have NB234_220:=n9_
           clear n0_ n1_ n2_ n3_ n4_ n5_ n6_ n7_ n8_ n9_
           clear hb hbox hg
           refine hK.out _ _ ⟨(blk_cell BK219.out 0).trans rfl,(blk_cell BK219.out 1).trans rfl,((HB.out.cell (World.block_lt_of_cell? w _ hw229_0)).trans hw229_0),((HB.out.cell (World.block_lt_of_cell? w _ hw229_1)).trans hw229_1)⟩ (fun hHeld=>?_)
           clear hK K
           refine norm_ (a':=?_) ?_ ?_
           rotate_left
           ·show Act.put _ (some 15) _ = _
            simp only [Act.put,zS,z0,z1,i64_w,i32_w]
            rfl
           refine one_ (i:=8) (N:=some 71) #[true,true,true,true,true,true,true,true,true,false,false,false,false,false,true,false,false] rfl rfl (one_of HT_.out (by kernel_rfl)) (by decide) (fun K hK=>?_)
           refine goesW_ Try.func60 (by kernel_rfl) rfl #[.agg #[.int .i64 ((rd_T38 l1 x14_28).f0),.int .i64 ((rd_T38 l1 x14_28).f1)]] (by rfl) rfl rfl (by (try simp only [List.map_toArray,List.map_cons,List.map_nil]);first|done|rfl) ?_
           with_reducible refine (impl_timeOf.calls ((rd_T38 l1 x14_28).f0) ((rd_T38 l1 x14_28).f1) t230 _ A39.out).mono ?_
           rintro e w44 ⟨rfl,hb⟩
           refine ⟨_,rfl,?_⟩
           have n0_:=zM (blk_below (g:=gb219) (o:=.cells #[.int .i64 a0_0,.int .i64 a0_1] 27 (0,0)) (by (with_reducible repeat (first|refine bA ?_ _|refine bB ?_|refine bC ?_ _));exact BK219.out) hb)
           have n1_:=zM (blk_below (g:=gb220) (o:=.cells #[.int .i64 x221000_24,.int .i64 x221001_24] 40 (0,0)) (by (with_reducible repeat (first|refine bA ?_ _|refine bB ?_|refine bC ?_ _));exact BK220.out) hb)
           have n2_:=zM (blk_below (g:=gb234) (o:=.cells #[.int .i64 0,.int .i64 0] 40 (0,0)) (by (with_reducible repeat (first|refine bA ?_ _|refine bB ?_|refine bC ?_ _));exact BK234.out) hb)
           have n3_:=zM (bG (by repeat (first|(with_reducible first|exact HB.out|apply bE|apply bD|apply bF|refine below_set ?_ GE219.out|refine below_set ?_ GE220.out|refine below_set ?_ GE234.out)|exact HB.out)) hb)
           clear BK219
           clear BK220
           clear BK234
           clear HB
           have BK219:=n0_
           have BK220:=n1_
           have BK234:=n2_
           have HB:=n3_
           clear n0_ n1_ n2_ n3_
           (try clear hb)
           (try clear hb2)
           (try clear hk)
           (try clear hi)
           refine hK.out _ _ ⟨(blk_cell BK219.out 0).trans rfl,(blk_cell BK219.out 1).trans rfl,((HB.out.cell (World.block_lt_of_cell? w _ hw229_0)).trans hw229_0),((HB.out.cell (World.block_lt_of_cell? w _ hw229_1)).trans hw229_1)⟩ (fun hHeld=>?_)
           clear hK K
           refine norm_ (a':=?_) ?_ ?_
           rotate_left
           ·show Act.put _ (some 71) _ = _
            simp only [Act.put,zS,z0,z1,i64_w,i32_w]
            rfl
           refine pure_ (i:=9) (N:=some 72) (v:=?_) (a':=?_) #[true,true,true,true,true,true,true,true,true,true,false,false,false,false,true,false,false] rfl rfl (any_of HT_.out (by kernel_rfl)) (fun _ _ _ h=>h) (Or.inl ⟨by rfl,?_⟩) ?_ ?_
           rotate_left
           ·intro w'
            go_simp
            with_reducible rfl
           rotate_left
           ·simp only [Act.put,zS,z0,z1,i64_w,i32_w]
            rfl
           refine one_ (i:=10) (N:=some 73) #[true,true,true,true,true,true,true,true,true,true,true,false,false,false,true,false,false] rfl rfl (one_of HT_.out (by kernel_rfl)) (by decide) (fun K hK=>?_)
           refine goesW_ Try.func62 (by kernel_rfl) rfl #[.agg #[.int .i64 a0_0,.int .i64 a0_1],.int .i64 (wrap64 (a2 - t230))] (by rfl) rfl rfl (by (try simp only [List.map_toArray,List.map_cons,List.map_nil]);first|done|rfl) ?_
           with_reducible refine (impl_counts.calls a0_0 a0_1 (wrap64 (a2 - t230)) t231 t232 t233 _ A40.out).mono ?_
           rintro e w45 ⟨rfl,hb⟩
           refine ⟨_,rfl,?_⟩
           have n0_:=zM (blk_below (g:=gb219) (o:=.cells #[.int .i64 a0_0,.int .i64 a0_1] 27 (0,0)) (by (with_reducible repeat (first|refine bA ?_ _|refine bB ?_|refine bC ?_ _));exact BK219.out) hb)
           have n1_:=zM (blk_below (g:=gb220) (o:=.cells #[.int .i64 x221000_24,.int .i64 x221001_24] 40 (0,0)) (by (with_reducible repeat (first|refine bA ?_ _|refine bB ?_|refine bC ?_ _));exact BK220.out) hb)
           have n2_:=zM (blk_below (g:=gb234) (o:=.cells #[.int .i64 0,.int .i64 0] 40 (0,0)) (by (with_reducible repeat (first|refine bA ?_ _|refine bB ?_|refine bC ?_ _));exact BK234.out) hb)
           have n3_:=zM (bG (by repeat (first|(with_reducible first|exact HB.out|apply bE|apply bD|apply bF|refine below_set ?_ GE219.out|refine below_set ?_ GE220.out|refine below_set ?_ GE234.out)|exact HB.out)) hb)
           clear BK219
           clear BK220
           clear BK234
           clear HB
           have BK219:=n0_
           have BK220:=n1_
           have BK234:=n2_
           have HB:=n3_
           clear n0_ n1_ n2_ n3_
           (try clear hb)
           (try clear hb2)
           (try clear hk)
           (try clear hi)
           refine hK.out _ _ ⟨(blk_cell BK219.out 0).trans rfl,(blk_cell BK219.out 1).trans rfl,((HB.out.cell (World.block_lt_of_cell? w _ hw229_0)).trans hw229_0),((HB.out.cell (World.block_lt_of_cell? w _ hw229_1)).trans hw229_1)⟩ (fun hHeld=>?_)
           clear hK K
           refine norm_ (a':=?_) ?_ ?_
           rotate_left
           ·show Act.put _ (some 73) _ = _
            simp only [Act.put,zS,z0,z1,i64_w,i32_w]
            rfl
           refine pure_ (i:=11) (N:=some 62) (v:=?_) (a':=?_) #[true,true,true,true,true,true,true,true,true,true,true,true,false,false,true,false,false] rfl rfl (any_of HT_.out (by kernel_rfl)) (fun _ _ _ h=>h) (Or.inl ⟨by rfl,?_⟩) ?_ ?_
           rotate_left
           ·intro w'
            go_simp
            with_reducible rfl
           rotate_left
           ·simp only [Act.put,zS,z0,z1,i64_w,i32_w]
            rfl
           refine pure_ (i:=12) (N:=some 74) (v:=?_) (a':=?_) #[true,true,true,true,true,true,true,true,true,true,true,true,true,false,true,false,false] rfl rfl (any_of HT_.out (by kernel_rfl)) (fun _ _ _ h=>h) (Or.inl ⟨by rfl,?_⟩) ?_ ?_
           rotate_left
           ·intro w'
            go_simp
            with_reducible rfl
           rotate_left
           ·simp only [Act.put,zS,z0,z1,i64_w,i32_w]
            rfl
           refine pure_ (i:=13) (N:=some 75) (v:=?_) (a':=?_) #[true,true,true,true,true,true,true,true,true,true,true,true,true,true,true,false,false] rfl rfl (any_of HT_.out (by kernel_rfl)) (fun _ _ _ h=>h) (Or.inl ⟨by rfl,?_⟩) ?_ ?_
           rotate_left
           ·intro w'
            go_simp
            with_reducible rfl
           rotate_left
           ·simp only [Act.put,zS,z0,z1,i64_w,i32_w]
            rfl
           exact norm_ (by simp only [putAll,Act.put,zS,z0,z1]) (hCont (gb234) _ ⟨hHeld,(by (with_reducible repeat (first|refine bA ?_ _|refine bB ?_|refine bC ?_ _));exact BK219.out),(by (with_reducible repeat (first|refine bA ?_ _|refine bB ?_|refine bC ?_ _));exact BK220.out),(by (with_reducible repeat (first|refine bA ?_ _|refine bB ?_|refine bC ?_ _));exact BK234.out),GW234.out,GE234.out,NB219_234.out,NB234_219.out,NB220_234.out,NB234_220.out,(by repeat (first|(with_reducible first|exact HB.out|apply bE|apply bD|apply bF|refine below_set ?_ GE219.out|refine below_set ?_ GE220.out|refine below_set ?_ GE234.out)|exact HB.out))⟩)
         rintro gb234 w46 ⟨hS_,h0_,h1_,h2_,h3_,h4_,h5_,h6_,h7_,h8_,h9_⟩
         have n0_:Aside0 (w46.heap[gb219]? = some (.cells #[.int .i64 a0_0,.int .i64 a0_1] 27 (0,0))):=⟨h0_⟩
         have n1_:Aside0 (w46.heap[gb220]? = some (.cells #[.int .i64 x221000_24,.int .i64 x221001_24] 40 (0,0))):=⟨h1_⟩
         have n2_:Aside0 (w46.heap[gb234]? = some (.cells #[.int .i64 0,.int .i64 0] 40 (0,0))):=⟨h2_⟩
         have n3_:Aside0 (w.heap.size ≤ gb234):=⟨h3_⟩
         have n4_:Aside0 (w.heap.size ≤ gb234):=⟨h4_⟩
         have n5_:Aside0 (gb219 ≠ gb234):=⟨h5_⟩
         have n6_:Aside0 (gb234 ≠ gb219):=⟨h6_⟩
         have n7_:Aside0 (gb220 ≠ gb234):=⟨h7_⟩
         have n8_:Aside0 (gb234 ≠ gb220):=⟨h8_⟩
         have n9_:Aside0 (Below w.heap.size w w46):=⟨h9_⟩
         clear BK219
         clear BK220
         clear HB
         clear h0_ h1_ h2_ h3_ h4_ h5_ h6_ h7_ h8_ h9_
         have BK219:=n0_
         have BK220:=n1_
         have BK234:=n2_
         have GW234:=n3_
         have GE234:=n4_
         have NB219_234:=n5_
         have NB234_219:=n6_
         have NB220_234:=n7_
         have NB234_220:=n8_
         have HB:=n9_
         clear n0_ n1_ n2_ n3_ n4_ n5_ n6_ n7_ n8_ n9_
         have hHeld:w46.cell? ⟨gb219,0,none⟩ = some (.int .i64 a0_0) ∧ w46.cell? ⟨gb219,1,none⟩ = some (.int .i64 a0_1) ∧ w46.cell? (ad229.add ((x14_28).toNat * 2)) = some (.int .i64 ((rd_T38 l1 x14_28).f0)) ∧ w46.cell? ⟨(ad229.add ((x14_28).toNat * 2)).block,(ad229.add ((x14_28).toNat * 2)).off + 1,none⟩ = some (.int .i64 ((rd_T38 l1 x14_28).f1)):=hS_
         refine norm_ (a':=?_) ?_ ?_
         rotate_left
         ·simp only [putAll,Act.put,zS,z0,z1]
          rfl
         refine one_ (i:=15) (N:=none) #[true,true,true,true,true,true,true,true,true,true,true,true,true,true,true,true,false] rfl rfl (one_of HT_.out (by kernel_rfl)) (by decide) (fun K hK=>?_)
         have hs47:w46.cell? ⟨gb234,0,none⟩ = some (.int .i64 0):=(blk_cell BK234.out 0).trans rfl
         have hfs47:=blk_frozen BK234.out 0
         have hns47_0:=NB219_234.out
         have hns47_1:=NB220_234.out
         have hms47_0:=NB234_219.out
         have hms47_1:=NB234_220.out
         have hs48:w46.cell? ⟨gb234,1,none⟩ = some (.int .i64 0):=(blk_cell BK234.out 1).trans rfl
         have hfs48:=blk_frozen BK234.out 1
         have hns48_0:=NB219_234.out
         have hns48_1:=NB220_234.out
         have hms48_0:=NB234_219.out
         have hms48_1:=NB234_220.out
         refine skip_ (w1:=?_) (by rfl) rfl ?_ ?_
         rotate_left
         ·go_simp
          rfl
         refine hK.out _ _ ⟨((cell_far (p:=⟨gb234,_,none⟩) NB219_234.out _).trans (((cell_far (p:=⟨gb234,_,none⟩) NB219_234.out _).trans (hHeld.1)))),((cell_far (p:=⟨gb234,_,none⟩) NB219_234.out _).trans (((cell_far (p:=⟨gb234,_,none⟩) NB219_234.out _).trans (hHeld.2.1)))),((cell_far (p:=⟨gb234,_,none⟩) (by first|exact Nat.ne_of_lt (Nat.lt_of_lt_of_le (by have:=World.block_lt_of_cell? _ _ hw229_0;first|rwa [add_block] at this|exact this) GW234.out)|(rw [add_block];exact Nat.ne_of_lt (Nat.lt_of_lt_of_le (by have:=World.block_lt_of_cell? _ _ hw229_0;first|rwa [add_block] at this|exact this) GW234.out))|(show (Addr.add _ _).block ≠ _;rw [add_block];exact Nat.ne_of_lt (Nat.lt_of_lt_of_le (by have:=World.block_lt_of_cell? _ _ hw229_0;first|rwa [add_block] at this|exact this) GW234.out))|(dsimp only;exact Nat.ne_of_lt (Nat.lt_of_lt_of_le (by have:=World.block_lt_of_cell? _ _ hw229_0;first|rwa [add_block] at this|exact this) GW234.out))) _).trans (((cell_far (p:=⟨gb234,_,none⟩) (by first|exact Nat.ne_of_lt (Nat.lt_of_lt_of_le (by have:=World.block_lt_of_cell? _ _ hw229_0;first|rwa [add_block] at this|exact this) GW234.out)|(rw [add_block];exact Nat.ne_of_lt (Nat.lt_of_lt_of_le (by have:=World.block_lt_of_cell? _ _ hw229_0;first|rwa [add_block] at this|exact this) GW234.out))|(show (Addr.add _ _).block ≠ _;rw [add_block];exact Nat.ne_of_lt (Nat.lt_of_lt_of_le (by have:=World.block_lt_of_cell? _ _ hw229_0;first|rwa [add_block] at this|exact this) GW234.out))|(dsimp only;exact Nat.ne_of_lt (Nat.lt_of_lt_of_le (by have:=World.block_lt_of_cell? _ _ hw229_0;first|rwa [add_block] at this|exact this) GW234.out))) _).trans (hHeld.2.2.1)))),((cell_far (p:=⟨gb234,_,none⟩) (by first|exact Nat.ne_of_lt (Nat.lt_of_lt_of_le (by have:=World.block_lt_of_cell? _ _ hw229_1;first|rwa [add_block] at this|exact this) GW234.out)|(rw [add_block];exact Nat.ne_of_lt (Nat.lt_of_lt_of_le (by have:=World.block_lt_of_cell? _ _ hw229_1;first|rwa [add_block] at this|exact this) GW234.out))|(show (Addr.add _ _).block ≠ _;rw [add_block];exact Nat.ne_of_lt (Nat.lt_of_lt_of_le (by have:=World.block_lt_of_cell? _ _ hw229_1;first|rwa [add_block] at this|exact this) GW234.out))|(dsimp only;exact Nat.ne_of_lt (Nat.lt_of_lt_of_le (by have:=World.block_lt_of_cell? _ _ hw229_1;first|rwa [add_block] at this|exact this) GW234.out))) _).trans (((cell_far (p:=⟨gb234,_,none⟩) (by first|exact Nat.ne_of_lt (Nat.lt_of_lt_of_le (by have:=World.block_lt_of_cell? _ _ hw229_1;first|rwa [add_block] at this|exact this) GW234.out)|(rw [add_block];exact Nat.ne_of_lt (Nat.lt_of_lt_of_le (by have:=World.block_lt_of_cell? _ _ hw229_1;first|rwa [add_block] at this|exact this) GW234.out))|(show (Addr.add _ _).block ≠ _;rw [add_block];exact Nat.ne_of_lt (Nat.lt_of_lt_of_le (by have:=World.block_lt_of_cell? _ _ hw229_1;first|rwa [add_block] at this|exact this) GW234.out))|(dsimp only;exact Nat.ne_of_lt (Nat.lt_of_lt_of_le (by have:=World.block_lt_of_cell? _ _ hw229_1;first|rwa [add_block] at this|exact this) GW234.out))) _).trans (hHeld.2.2.2))))⟩ (fun hHeld=>?_)
         clear hK K
         refine pure_ (i:=16) (N:=some 16) (v:=?_) (a':=?_) #[true,true,true,true,true,true,true,true,true,true,true,true,true,true,true,true,true] rfl rfl (any_of HT_.out (by kernel_rfl)) (fun _ _ _ h=>h) (Or.inl ⟨by rfl,?_⟩) ?_ ?_
         rotate_left
         ·intro w'
          go_simp
          with_reducible rfl
         rotate_left
         ·simp only [Act.put,zS,z0,z1,i64_w,i32_w]
          rfl
         refine done_ (done_of HT_.out (by kernel_rfl)) ?_
         go_upto_if 77 with (fail)
         go_cut [] (fun wc=>∃ (kq:Nat) (x221000_40:Int) (x221001_40:Int),Aside0 (impl_between_60_61_62.j4 kq l1 a2 x14_28 a0_0 a0_1 t231 t232 = some (r1,r2,r3)) ∧ Aside0 (kq ≤ kj28) ∧ Aside0 (wc.heap[gb219]? = some (.cells #[.int .i64 a0_0,.int .i64 a0_1] 27 (0,0))) ∧ Aside0 (wc.heap[gb220]? = some (.cells #[.int .i64 x221000_40,.int .i64 x221001_40] 40 (0,0))) ∧ Aside0 (wc.heap[gb234]? = some (.cells #[.int .i64 t231,.int .i64 t232] 40 (0,0))) ∧ Aside0 (Below w.heap.size w wc))
         case first =>
          have H:=HC41.out
          clear HC41
          by_cases c49:t233 = true
          ·subst c49
           have H1:(impl_between_60_61_62.j4 kj28 l1 a2 x14_28 a0_0 a0_1 t231 t232) = some (r1,r2,r3):=by rw [if_pos rfl] at H;exact H
           clear H
           have H:=H1
           clear H1
           have H':=zM H
           clear H
           go_wp2
           go_meet
           case rel=>exact ⟨_,(x221000_24),(x221001_24),H',⟨by have:=HJ6.out;have:=HJ24.out;have:=HJ28.out;first|omega|exact Nat.le_refl _⟩,⟨by (with_reducible repeat (first|refine bA ?_ _|refine bB ?_|refine bC ?_ _));refine blk_far ?_ NB219_234.out _;(with_reducible repeat (first|refine bA ?_ _|refine bB ?_|refine bC ?_ _));refine blk_far ?_ NB219_234.out _;(with_reducible repeat (first|refine bA ?_ _|refine bB ?_|refine bC ?_ _));exact BK219.out⟩,⟨by (with_reducible repeat (first|refine bA ?_ _|refine bB ?_|refine bC ?_ _));refine blk_far ?_ NB220_234.out _;(with_reducible repeat (first|refine bA ?_ _|refine bB ?_|refine bC ?_ _));refine blk_far ?_ NB220_234.out _;(with_reducible repeat (first|refine bA ?_ _|refine bB ?_|refine bC ?_ _));exact BK220.out⟩,⟨by (with_reducible repeat (first|refine bA ?_ _|refine bB ?_|refine bC ?_ _));refine bH (cs:=#[.int .i64 t231,.int .i64 0]) ?_ 1 _ rfl;(with_reducible repeat (first|refine bA ?_ _|refine bB ?_|refine bC ?_ _));refine bH (cs:=#[.int .i64 0,.int .i64 0]) ?_ 0 _ rfl;(with_reducible repeat (first|refine bA ?_ _|refine bB ?_|refine bC ?_ _));exact BK234.out⟩,⟨by repeat (first|(with_reducible first|exact HB.out|apply bE|apply bD|apply bF|refine below_set ?_ GE219.out|refine below_set ?_ GE220.out|refine below_set ?_ GE234.out)|exact HB.out)⟩⟩
          ·replace c49:=Bool.eq_false_iff.mpr c49
           subst c49
           have H1:(some (0,0,false)) = some (r1,r2,r3):=by rw [if_neg (show ¬ (false = true) by decide)] at H;exact H
           clear H
           have H:=H1
           clear H1
           simp only [zI,zJ] at H
           obtain ⟨rfl,rfl,rfl⟩:=H
           have hnb50:=NB220_219.out
           have hnc50:=NB219_220.out
           have hnb51:=NB220_234.out
           have hnc51:=NB234_220.out
           have hcz52_0:w46.cell? ⟨gb220,0,none⟩ = some (.int .i64 x221000_24):=(blk_cell BK220.out 0).trans rfl
           have hcz52_1:w46.cell? ⟨gb220,1,none⟩ = some (.int .i64 x221001_24):=(blk_cell BK220.out 1).trans rfl
           have hfz52_0:=blk_frozen BK220.out 0
           have hfz52_1:=blk_frozen BK220.out 1
           go_wp2
           refine bodyPost_ret (results_ct rfl _ _ gb220 40 #[.int .i64 0,.int .i64 0] (0,0) _ rfl (by (with_reducible repeat (first|refine bA ?_ _|refine bB ?_|refine bC ?_ _));refine bH (cs:=#[.int .i64 0,.int .i64 x221001_24]) ?_ 1 _ rfl;(with_reducible repeat (first|refine bA ?_ _|refine bB ?_|refine bC ?_ _));refine bH (cs:=#[.int .i64 x221000_24,.int .i64 x221001_24]) ?_ 0 _ rfl;(with_reducible repeat (first|refine bA ?_ _|refine bB ?_|refine bC ?_ _));refine blk_far ?_ NB220_234.out _;(with_reducible repeat (first|refine bA ?_ _|refine bB ?_|refine bC ?_ _));refine blk_far ?_ NB220_234.out _;(with_reducible repeat (first|refine bA ?_ _|refine bB ?_|refine bC ?_ _));exact BK220.out) Try.underlying40 rfl (by kernel_rfl)) rfl ?_
           exact ⟨by first|rfl|(simp [*,errW_none,errW_some] <;> rfl),by repeat (first|(with_reducible first|exact HB.out|apply bE|apply bD|apply bF|refine below_set ?_ GE219.out|refine below_set ?_ GE220.out|refine below_set ?_ GE234.out)|exact HB.out)⟩
         case rest =>
          clear HC41
          try clear c1
          try clear c2
          try clear p2
          try clear q2
          try clear hx2
          try clear qi2
          try clear c3
          try clear c4
          try clear c5
          try clear c6
          try clear p6
          try clear c7
          try clear c11
          try clear c12
          try clear c12b0
          try clear c12b1
          try clear c15
          try clear c15b0
          try clear c16
          try clear c16b0
          try clear p22
          try clear q22
          try clear hx22
          try clear qi22
          try clear c26
          try clear c27
          try clear c30
          try clear c30b0
          try clear c32
          try clear c32b0
          try clear c34
          try clear c34b0
          try clear c37
          try clear c37b0
          try clear c38
          try clear c38b0
          try clear c49
          try clear c50
          try clear c51
          try clear hcz28_0
          try clear hcz28_1
          try clear hcz52_0
          try clear hcz52_1
          try clear hfz28_0
          try clear hfz28_1
          try clear hfz52_0
          try clear hfz52_1
          try clear hx222_0
          try clear hx222_1
          try clear hx224_0
          try clear hx224_1
          try clear hx227_0
          try clear hx227_1
          try clear hx229_0
          try clear hx229_1
          try clear p2
          try clear p22
          try clear p222
          try clear p224
          try clear p227
          try clear p229
          try clear p6
          try clear q2
          try clear q22
          try clear q222
          try clear q224
          try clear q227
          try clear q229
          obtain ⟨kq,x221000_40,x221001_40,HA,HJ40,BK219,BK220,BK234,HB⟩:=hcut
          cases kq with
          | zero=>exact absurd HA.out (by simp [impl_between_60_61_62.j4])
          | succ kj40 =>
           have H:=HA.out
           clear HA
           simp only [impl_between_60_61_62.j4] at H
           by_cases c53:0 ≤ x14_28
           ·rw [if_pos c53] at H
            have c53b0:decide (0 ≤ x14_28) = true:=decide_eq_true c53
            clear c53
            by_cases c54:x14_28 < (l1.length:Int)
            ·rw [if_pos c54] at H
             have c54b0:decide (x14_28 < (l1.length:Int)) = true:=decide_eq_true c54
             clear c54
             replace H:=zO H
             obtain ⟨t236,A550,H⟩:=H
             replace H:((impl_countOf.f ((rd_T38 l1 x14_28).f0) ((rd_T38 l1 x14_28).f1)).bind fun t238=>(if (wrap64 (x14_28 + 1)) < (l1.length:Int) then (if 0 ≤ (wrap64 (x14_28 + 1)) then ((impl_timeOf.f ((rd_T38 l1 (wrap64 (x14_28 + 1))).f0) ((rd_T38 l1 (wrap64 (x14_28 + 1))).f1)).bind fun t242=>((impl_counts.f a0_0 a0_1 (wrap64 (t242 - a2))).bind fun bt243=>(if bt243.2.2 = true then (impl_between_60_61_62.j5 kj40 (wrap64 (t236 + t231)) (wrap64 (t238 + t232)) ((rd_T38 l1 (wrap64 (x14_28 + 1))).f0) ((rd_T38 l1 (wrap64 (x14_28 + 1))).f1) bt243.1 bt243.2.1) else (some (0,0,false))))) else (none)) else (impl_between_60_61_62.j6 kj40 (wrap64 (t236 + t231)) (wrap64 (t238 + t232))))) = some (r1,r2,r3):=H
             have A55:=zM A550
             clear A550
             replace H:=zO H
             obtain ⟨t238,A560,H⟩:=H
             replace H:(if (wrap64 (x14_28 + 1)) < (l1.length:Int) then (if 0 ≤ (wrap64 (x14_28 + 1)) then ((impl_timeOf.f ((rd_T38 l1 (wrap64 (x14_28 + 1))).f0) ((rd_T38 l1 (wrap64 (x14_28 + 1))).f1)).bind fun t242=>((impl_counts.f a0_0 a0_1 (wrap64 (t242 - a2))).bind fun bt243=>(if bt243.2.2 = true then (impl_between_60_61_62.j5 kj40 (wrap64 (t236 + t231)) (wrap64 (t238 + t232)) ((rd_T38 l1 (wrap64 (x14_28 + 1))).f0) ((rd_T38 l1 (wrap64 (x14_28 + 1))).f1) bt243.1 bt243.2.1) else (some (0,0,false))))) else (none)) else (impl_between_60_61_62.j6 kj40 (wrap64 (t236 + t231)) (wrap64 (t238 + t232)))) = some (r1,r2,r3):=H
             have A56:=zM A560
             clear A560
             have HC57:=zM H
             clear H
             try go_wp2
             have n0_:=zM (bB BK219.out)
             have n1_:=zM (bB BK220.out)
             have n2_:=zM (bB BK234.out)
             have n3_:=zM (bF HB.out)
             clear BK219
             clear BK220
             clear BK234
             clear HB
             have BK219:=n0_
             have BK220:=n1_
             have BK234:=n2_
             have HB:=n3_
             clear n0_ n1_ n2_ n3_
             have p235:0 ≤ (x14_28:Int):=of_decide_eq_true (by first|(with_reducible assumption)|assumption)
             have q235:x14_28 < (l1.length:Int):=of_decide_eq_true (by first|(with_reducible assumption)|assumption)
             obtain ⟨ad235,e235,hx235_0,hx235_1⟩:=at_T38 HR1.out x14_28 p235 q235
             have hw235_1:=hx235_1
             have hw235_0:=hx235_0
             obtain rfl:ad229 = ad235:=(by injection e235)
             replace hx235_0:=(HB.out.cell (World.block_lt_of_cell? w _ hx235_0)).trans hx235_0
             replace hx235_1:=(HB.out.cell (World.block_lt_of_cell? w _ hx235_1)).trans hx235_1
             replace p235:=eq_true p235
             replace q235:=eq_true q235
             have p237:0 ≤ (x14_28:Int):=of_decide_eq_true (by first|(with_reducible assumption)|assumption)
             have q237:x14_28 < (l1.length:Int):=of_decide_eq_true (by first|(with_reducible assumption)|assumption)
             obtain ⟨ad237,e237,hx237_0,hx237_1⟩:=at_T38 HR1.out x14_28 p237 q237
             have hw237_1:=hx237_1
             have hw237_0:=hx237_0
             obtain rfl:ad229 = ad237:=(by injection e237)
             replace hx237_0:=(HB.out.cell (World.block_lt_of_cell? w _ hx237_0)).trans hx237_0
             replace hx237_1:=(HB.out.cell (World.block_lt_of_cell? w _ hx237_1)).trans hx237_1
             replace p237:=eq_true p237
             replace q237:=eq_true q237
             refine start_ (n:=21) (S:=fun w'=>w'.cell? ⟨gb234,0,none⟩ = some (.int .i64 t231) ∧ w'.cell? ⟨gb234,1,none⟩ = some (.int .i64 t232) ∧ w'.cell? (ad229.add ((x14_28).toNat * 2)) = some (.int .i64 ((rd_T38 l1 x14_28).f0)) ∧ w'.cell? ⟨(ad229.add ((x14_28).toNat * 2)).block,(ad229.add ((x14_28).toNat * 2)).off + 1,none⟩ = some (.int .i64 ((rd_T38 l1 x14_28).f1)) ∧ w'.cell? (ad229.add ((x14_28).toNat * 2)) = some (.int .i64 ((rd_T38 l1 x14_28).f0)) ∧ w'.cell? ⟨(ad229.add ((x14_28).toNat * 2)).block,(ad229.add ((x14_28).toNat * 2)).off + 1,none⟩ = some (.int .i64 ((rd_T38 l1 x14_28).f1))) (ds:=[]) #[false,false,false,false,false,false,false,false,false,false,false,false,false,false,false,false,false,false,false,false,false] (by kernel_rfl) rfl rfl ⟨(blk_cell BK234.out 0).trans rfl,(blk_cell BK234.out 1).trans rfl,((HB.out.cell (World.block_lt_of_cell? w _ hw235_0)).trans hw235_0),((HB.out.cell (World.block_lt_of_cell? w _ hw235_1)).trans hw235_1),((HB.out.cell (World.block_lt_of_cell? w _ hw237_0)).trans hw237_0),((HB.out.cell (World.block_lt_of_cell? w _ hw237_1)).trans hw237_1)⟩ (fun hHeld=>?_);refine with_tabW impl_between_60_61_62.tab9 impl_between_60_61_62.bits9 (fun HT_ HW_=>?_)
             generalize wc.drew = w58 at BK219 BK220 BK234 HB hx235_0 hx235_1 hx237_0 hx237_1 hHeld ⊢
             refine pure_ (i:=0) (N:=some 79) (v:=?_) (a':=?_) #[true,false,false,false,false,false,false,false,false,false,false,false,false,false,false,false,false,false,false,false,false] rfl rfl (any_of HT_.out (by kernel_rfl)) (fun _ _ _ h=>h) (Or.inl ⟨by rfl,?_⟩) ?_ ?_
             rotate_left
             ·intro w'
              go_simp
              with_reducible rfl
             rotate_left
             ·simp only [Act.put,zS,z0,z1,i64_w,i32_w]
              rfl
             refine pure_ (i:=1) (N:=some 80) (v:=?_) (a':=?_) #[true,true,false,false,false,false,false,false,false,false,false,false,false,false,false,false,false,false,false,false,false] rfl rfl (any_of HT_.out (by kernel_rfl)) (fun _ _ _ h=>h) (Or.inl ⟨by rfl,?_⟩) ?_ ?_
             rotate_left
             ·intro w'
              go_simp
              with_reducible rfl
             rotate_left
             ·simp only [Act.put,zS,z0,z1,i64_w,i32_w]
              rfl
             refine pure_ (i:=2) (N:=some 81) (v:=?_) (a':=?_) #[true,true,true,false,false,false,false,false,false,false,false,false,false,false,false,false,false,false,false,false,false] rfl rfl (any_of HT_.out (by kernel_rfl)) (fun _ _ _ h=>h) (Or.inl ⟨by rfl,?_⟩) ?_ ?_
             rotate_left
             ·intro w'
              go_simp
              with_reducible rfl
             rotate_left
             ·simp only [Act.put,zS,z0,z1,i64_w,i32_w]
              rfl
             refine pure_ (i:=3) (N:=some 82) (v:=?_) (a':=?_) #[true,true,true,true,false,false,false,false,false,false,false,false,false,false,false,false,false,false,false,false,false] rfl rfl (any_of HT_.out (by kernel_rfl)) (fun _ _ _ h=>h) (Or.inl ⟨by rfl,?_⟩) ?_ ?_
             rotate_left
             ·intro w'
              go_simp
              with_reducible rfl
             rotate_left
             ·simp only [Act.put,zS,z0,z1,i64_w,i32_w]
              rfl
             refine pure_ (i:=6) (N:=some 85) (v:=?_) (a':=?_) #[true,true,true,true,false,false,true,false,false,false,false,false,false,false,false,false,false,false,false,false,false] rfl rfl (any_of HT_.out (by kernel_rfl)) (fun _ _ _ h=>h) (Or.inl ⟨by rfl,?_⟩) ?_ ?_
             rotate_left
             ·intro w'
              go_simp
              with_reducible rfl
             rotate_left
             ·simp only [Act.put,zS,z0,z1,i64_w,i32_w]
              rfl
             refine pure_ (i:=9) (N:=some 88) (v:=?_) (a':=?_) #[true,true,true,true,false,false,true,false,false,true,false,false,false,false,false,false,false,false,false,false,false] rfl rfl (any_of HT_.out (by kernel_rfl)) (fun _ _ _ h=>h) (Or.inl ⟨by rfl,?_⟩) ?_ ?_
             rotate_left
             ·intro w'
              go_simp
              with_reducible rfl
             rotate_left
             ·simp only [Act.put,zS,z0,z1,i64_w,i32_w]
              rfl
             refine pure_ (i:=10) (N:=some 89) (v:=?_) (a':=?_) #[true,true,true,true,false,false,true,false,false,true,true,false,false,false,false,false,false,false,false,false,false] rfl rfl (any_of HT_.out (by kernel_rfl)) (fun _ _ _ h=>h) (Or.inl ⟨by rfl,?_⟩) ?_ ?_
             rotate_left
             ·intro w'
              go_simp
              with_reducible rfl
             rotate_left
             ·simp only [Act.put,zS,z0,z1,i64_w,i32_w]
              rfl
             refine pure_ (i:=11) (N:=some 90) (v:=?_) (a':=?_) #[true,true,true,true,false,false,true,false,false,true,true,true,false,false,false,false,false,false,false,false,false] rfl rfl (any_of HT_.out (by kernel_rfl)) (fun _ _ _ h=>h) (Or.inl ⟨by rfl,?_⟩) ?_ ?_
             rotate_left
             ·intro w'
              go_simp
              with_reducible rfl
             rotate_left
             ·simp only [Act.put,zS,z0,z1,i64_w,i32_w]
              rfl
             refine pure_ (i:=12) (N:=some 91) (v:=?_) (a':=?_) #[true,true,true,true,false,false,true,false,false,true,true,true,true,false,false,false,false,false,false,false,false] rfl rfl (any_of HT_.out (by kernel_rfl)) (fun _ _ _ h=>h) (Or.inl ⟨by rfl,?_⟩) ?_ ?_
             rotate_left
             ·intro w'
              go_simp
              with_reducible rfl
             rotate_left
             ·simp only [Act.put,zS,z0,z1,i64_w,i32_w]
              rfl
             refine pure_ (i:=15) (N:=some 94) (v:=?_) (a':=?_) #[true,true,true,true,false,false,true,false,false,true,true,true,true,false,false,true,false,false,false,false,false] rfl rfl (any_of HT_.out (by kernel_rfl)) (fun _ _ _ h=>h) (Or.inl ⟨by rfl,?_⟩) ?_ ?_
             rotate_left
             ·intro w'
              go_simp
              with_reducible rfl
             rotate_left
             ·simp only [Act.put,zS,z0,z1,i64_w,i32_w]
              rfl
             refine take_ (i:=4) (N:=some 83) (v:=?_) (a':=?_) #[true,true,true,true,true,false,true,false,false,true,true,true,true,false,false,true,false,false,false,false,false] rfl rfl (take_ofW HT_.out HW_.out (by kernel_rfl)) (fun _ _ _ h=>h) (Or.inl ⟨by rfl,?_⟩) hHeld ?_ ?_
             rotate_left
             ·rintro w' ⟨s0,s1,s2,s3,s4,s5⟩
              go_simp
              with_reducible rfl
             rotate_left
             ·simp only [Act.put,zS,z0,z1,i64_w,i32_w]
              rfl
             refine take_ (i:=7) (N:=some 86) (v:=?_) (a':=?_) #[true,true,true,true,true,false,true,true,false,true,true,true,true,false,false,true,false,false,false,false,false] rfl rfl (take_ofW HT_.out HW_.out (by kernel_rfl)) (fun _ _ _ h=>h) (Or.inl ⟨by rfl,?_⟩) hHeld ?_ ?_
             rotate_left
             ·rintro w' ⟨s0,s1,s2,s3,s4,s5⟩
              go_simp
              with_reducible rfl
             rotate_left
             ·simp only [Act.put,zS,z0,z1,i64_w,i32_w]
              rfl
             refine take_ (i:=13) (N:=some 92) (v:=?_) (a':=?_) #[true,true,true,true,true,false,true,true,false,true,true,true,true,true,false,true,false,false,false,false,false] rfl rfl (take_ofW HT_.out HW_.out (by kernel_rfl)) (fun _ _ _ h=>h) (Or.inl ⟨by rfl,?_⟩) hHeld ?_ ?_
             rotate_left
             ·rintro w' ⟨s0,s1,s2,s3,s4,s5⟩
              go_simp
              with_reducible rfl
             rotate_left
             ·simp only [Act.put,zS,z0,z1,i64_w,i32_w]
              rfl
             refine take_ (i:=16) (N:=some 95) (v:=?_) (a':=?_) #[true,true,true,true,true,false,true,true,false,true,true,true,true,true,false,true,true,false,false,false,false] rfl rfl (take_ofW HT_.out HW_.out (by kernel_rfl)) (fun _ _ _ h=>h) (Or.inl ⟨by rfl,?_⟩) hHeld ?_ ?_
             rotate_left
             ·rintro w' ⟨s0,s1,s2,s3,s4,s5⟩
              go_simp
              with_reducible rfl
             rotate_left
             ·simp only [Act.put,zS,z0,z1,i64_w,i32_w]
              rfl
             refine join_ (σ:=Nat) 1 #[true,true,true,true,true,true,true,true,true,true,true,true,true,true,true,true,true,true,true,true,false] (fun s_=>[(84,.int .i64 t236),(93,.int .i64 t238),(17,.pointer (some ⟨s_,0,none⟩)),(87,.int .i64 (wrap64 (t236 + t231))),(96,.int .i64 (wrap64 (t238 + t232))),(97,.agg #[.int .i64 (wrap64 (t236 + t231)),.int .i64 (wrap64 (t238 + t232))])]) (fun s_ w'=>(w'.cell? ⟨gb234,0,none⟩ = some (.int .i64 t231) ∧ w'.cell? ⟨gb234,1,none⟩ = some (.int .i64 t232) ∧ w'.cell? (ad229.add ((x14_28).toNat * 2)) = some (.int .i64 ((rd_T38 l1 x14_28).f0)) ∧ w'.cell? ⟨(ad229.add ((x14_28).toNat * 2)).block,(ad229.add ((x14_28).toNat * 2)).off + 1,none⟩ = some (.int .i64 ((rd_T38 l1 x14_28).f1)) ∧ w'.cell? (ad229.add ((x14_28).toNat * 2)) = some (.int .i64 ((rd_T38 l1 x14_28).f0)) ∧ w'.cell? ⟨(ad229.add ((x14_28).toNat * 2)).block,(ad229.add ((x14_28).toNat * 2)).off + 1,none⟩ = some (.int .i64 ((rd_T38 l1 x14_28).f1))) ∧ (w'.heap[gb219]? = some (.cells #[.int .i64 a0_0,.int .i64 a0_1] 27 (0,0))) ∧ (w'.heap[gb220]? = some (.cells #[.int .i64 x221000_40,.int .i64 x221001_40] 40 (0,0))) ∧ (w'.heap[gb234]? = some (.cells #[.int .i64 t231,.int .i64 t232] 40 (0,0))) ∧ (w'.heap[s_]? = some (.cells #[.int .i64 0,.int .i64 0] 40 (0,0))) ∧ (w.heap.size ≤ s_) ∧ (w.heap.size ≤ s_) ∧ (gb219 ≠ s_) ∧ (s_ ≠ gb219) ∧ (gb220 ≠ s_) ∧ (s_ ≠ gb220) ∧ (gb234 ≠ s_) ∧ (s_ ≠ gb234) ∧ (Below w.heap.size w w')) ?_ ?_
             rotate_left
             ·intro hCont
              refine two_ (i:=5) (j:=19) (Ni:=some 84) (Nj:=some 17) #[true,true,true,true,true,true,true,true,false,true,true,true,true,true,false,true,true,false,false,false,false] #[true,true,true,true,true,false,true,true,false,true,true,true,true,true,false,true,true,false,false,true,false] rfl rfl rfl rfl (two_of HT_.out (by kernel_rfl)) (by decide) (by decide) (fun K hK=>?_) (fun K hK=>?_)
              ·skip
               refine goesW_ Try.func61 (by kernel_rfl) rfl #[.agg #[.int .i64 ((rd_T38 l1 x14_28).f0),.int .i64 ((rd_T38 l1 x14_28).f1)]] (by rfl) rfl rfl (by (try simp only [List.map_toArray,List.map_cons,List.map_nil]);first|done|rfl) ?_
               with_reducible refine (impl_countOf.calls ((rd_T38 l1 x14_28).f0) ((rd_T38 l1 x14_28).f1) t236 _ A55.out).mono ?_
               rintro e w59 ⟨rfl,hb⟩
               refine ⟨_,rfl,?_⟩
               have n0_:=zM (blk_below (g:=gb219) (o:=.cells #[.int .i64 a0_0,.int .i64 a0_1] 27 (0,0)) (by (with_reducible repeat (first|refine bA ?_ _|refine bB ?_|refine bC ?_ _));exact BK219.out) hb)
               have n1_:=zM (blk_below (g:=gb220) (o:=.cells #[.int .i64 x221000_40,.int .i64 x221001_40] 40 (0,0)) (by (with_reducible repeat (first|refine bA ?_ _|refine bB ?_|refine bC ?_ _));exact BK220.out) hb)
               have n2_:=zM (blk_below (g:=gb234) (o:=.cells #[.int .i64 t231,.int .i64 t232] 40 (0,0)) (by (with_reducible repeat (first|refine bA ?_ _|refine bB ?_|refine bC ?_ _));exact BK234.out) hb)
               have n3_:=zM (bG (by repeat (first|(with_reducible first|exact HB.out|apply bE|apply bD|apply bF|refine below_set ?_ GE219.out|refine below_set ?_ GE220.out|refine below_set ?_ GE234.out)|exact HB.out)) hb)
               clear BK219
               clear BK220
               clear BK234
               clear HB
               have BK219:=n0_
               have BK220:=n1_
               have BK234:=n2_
               have HB:=n3_
               clear n0_ n1_ n2_ n3_
               (try clear hb)
               (try clear hb2)
               (try clear hk)
               (try clear hi)
               refine hK.out _ _ ⟨(blk_cell BK234.out 0).trans rfl,(blk_cell BK234.out 1).trans rfl,((HB.out.cell (World.block_lt_of_cell? w _ hw235_0)).trans hw235_0),((HB.out.cell (World.block_lt_of_cell? w _ hw235_1)).trans hw235_1),((HB.out.cell (World.block_lt_of_cell? w _ hw237_0)).trans hw237_0),((HB.out.cell (World.block_lt_of_cell? w _ hw237_1)).trans hw237_1)⟩ (fun hHeld=>?_)
               clear hK K
               refine norm_ (a':=?_) ?_ ?_
               rotate_left
               ·show Act.put _ (some 84) _ = _
                simp only [Act.put,zS,z0,z1,i64_w,i32_w]
                rfl
               refine pure_ (i:=8) (N:=some 87) (v:=?_) (a':=?_) #[true,true,true,true,true,true,true,true,true,true,true,true,true,true,false,true,true,false,false,false,false] rfl rfl (any_of HT_.out (by kernel_rfl)) (fun _ _ _ h=>h) (Or.inl ⟨by rfl,?_⟩) ?_ ?_
               rotate_left
               ·intro w'
                go_simp
                with_reducible rfl
               rotate_left
               ·simp only [Act.put,zS,z0,z1,i64_w,i32_w]
                rfl
               refine two_ (i:=14) (j:=19) (Ni:=some 93) (Nj:=some 17) #[true,true,true,true,true,true,true,true,true,true,true,true,true,true,true,true,true,false,false,false,false] #[true,true,true,true,true,true,true,true,true,true,true,true,true,true,false,true,true,false,false,true,false] rfl rfl rfl rfl (two_of HT_.out (by kernel_rfl)) (by decide) (by decide) (fun K hK=>?_) (fun K hK=>?_)
               ·skip
                refine goesW_ Try.func61 (by kernel_rfl) rfl #[.agg #[.int .i64 ((rd_T38 l1 x14_28).f0),.int .i64 ((rd_T38 l1 x14_28).f1)]] (by rfl) rfl rfl (by (try simp only [List.map_toArray,List.map_cons,List.map_nil]);first|done|rfl) ?_
                with_reducible refine (impl_countOf.calls ((rd_T38 l1 x14_28).f0) ((rd_T38 l1 x14_28).f1) t238 _ A56.out).mono ?_
                rintro e w60 ⟨rfl,hb⟩
                refine ⟨_,rfl,?_⟩
                have n0_:=zM (blk_below (g:=gb219) (o:=.cells #[.int .i64 a0_0,.int .i64 a0_1] 27 (0,0)) (by (with_reducible repeat (first|refine bA ?_ _|refine bB ?_|refine bC ?_ _));exact BK219.out) hb)
                have n1_:=zM (blk_below (g:=gb220) (o:=.cells #[.int .i64 x221000_40,.int .i64 x221001_40] 40 (0,0)) (by (with_reducible repeat (first|refine bA ?_ _|refine bB ?_|refine bC ?_ _));exact BK220.out) hb)
                have n2_:=zM (blk_below (g:=gb234) (o:=.cells #[.int .i64 t231,.int .i64 t232] 40 (0,0)) (by (with_reducible repeat (first|refine bA ?_ _|refine bB ?_|refine bC ?_ _));exact BK234.out) hb)
                have n3_:=zM (bG (by repeat (first|(with_reducible first|exact HB.out|apply bE|apply bD|apply bF|refine below_set ?_ GE219.out|refine below_set ?_ GE220.out|refine below_set ?_ GE234.out)|exact HB.out)) hb)
                clear BK219
                clear BK220
                clear BK234
                clear HB
                have BK219:=n0_
                have BK220:=n1_
                have BK234:=n2_
                have HB:=n3_
                clear n0_ n1_ n2_ n3_
                (try clear hb)
                (try clear hb2)
                (try clear hk)
                (try clear hi)
                refine hK.out _ _ ⟨(blk_cell BK234.out 0).trans rfl,(blk_cell BK234.out 1).trans rfl,((HB.out.cell (World.block_lt_of_cell? w _ hw235_0)).trans hw235_0),((HB.out.cell (World.block_lt_of_cell? w _ hw235_1)).trans hw235_1),((HB.out.cell (World.block_lt_of_cell? w _ hw237_0)).trans hw237_0),((HB.out.cell (World.block_lt_of_cell? w _ hw237_1)).trans hw237_1)⟩ (fun hHeld=>?_)
                clear hK K
                refine norm_ (a':=?_) ?_ ?_
                rotate_left
                ·show Act.put _ (some 93) _ = _
                 simp only [Act.put,zS,z0,z1,i64_w,i32_w]
                 rfl
                refine pure_ (i:=17) (N:=some 96) (v:=?_) (a':=?_) #[true,true,true,true,true,true,true,true,true,true,true,true,true,true,true,true,true,true,false,false,false] rfl rfl (any_of HT_.out (by kernel_rfl)) (fun _ _ _ h=>h) (Or.inl ⟨by rfl,?_⟩) ?_ ?_
                rotate_left
                ·intro w'
                 go_simp
                 with_reducible rfl
                rotate_left
                ·simp only [Act.put,zS,z0,z1,i64_w,i32_w]
                 rfl
                refine pure_ (i:=18) (N:=some 97) (v:=?_) (a':=?_) #[true,true,true,true,true,true,true,true,true,true,true,true,true,true,true,true,true,true,true,false,false] rfl rfl (any_of HT_.out (by kernel_rfl)) (fun _ _ _ h=>h) (Or.inl ⟨by rfl,?_⟩) ?_ ?_
                rotate_left
                ·intro w'
                 go_simp
                 with_reducible rfl
                rotate_left
                ·simp only [Act.put,zS,z0,z1,i64_w,i32_w]
                 rfl
                refine one_ (i:=19) (N:=some 17) #[true,true,true,true,true,true,true,true,true,true,true,true,true,true,true,true,true,true,true,true,false] rfl rfl (one_of HT_.out (by kernel_rfl)) (by decide) (fun K hK=>?_)
                refine box_step ?hg (N:=17) ?hd (cs:=#[.int .i64 0,.int .i64 0]) (t:=40) ?hr ?_;(case hd=>rfl);(case hg=>rfl);(case hr=>first|(go_simp;done)|(go_simp;rfl))
                intro gb239 hg w61 hbox hb
                have n0_:=zM (blk_below (g:=gb219) (o:=.cells #[.int .i64 a0_0,.int .i64 a0_1] 27 (0,0)) (by (with_reducible repeat (first|refine bA ?_ _|refine bB ?_|refine bC ?_ _));exact BK219.out) hb)
                have n1_:=zM (blk_below (g:=gb220) (o:=.cells #[.int .i64 x221000_40,.int .i64 x221001_40] 40 (0,0)) (by (with_reducible repeat (first|refine bA ?_ _|refine bB ?_|refine bC ?_ _));exact BK220.out) hb)
                have n2_:=zM (blk_below (g:=gb234) (o:=.cells #[.int .i64 t231,.int .i64 t232] 40 (0,0)) (by (with_reducible repeat (first|refine bA ?_ _|refine bB ?_|refine bC ?_ _));exact BK234.out) hb)
                have n3_:=zM (bG (by repeat (first|(with_reducible first|exact HB.out|apply bE|apply bD|apply bF|refine below_set ?_ GE219.out|refine below_set ?_ GE220.out|refine below_set ?_ GE234.out)|exact HB.out)) hb)
                have n4_:=zM (hbox)
                have n5_:=zM ((by rw [hg];exact (below_size (by repeat (first|(with_reducible first|exact HB.out|apply bE|apply bD|apply bF|refine below_set ?_ GE219.out|refine below_set ?_ GE220.out|refine below_set ?_ GE234.out)|exact HB.out))):w.heap.size ≤ gb239))
                have n6_:=zM ((by rw [hg];exact (below_size (by repeat (first|(with_reducible first|exact HB.out|apply bE|apply bD|apply bF|refine below_set ?_ GE219.out|refine below_set ?_ GE220.out|refine below_set ?_ GE234.out)|exact HB.out))):w.heap.size ≤ gb239))
                have n7_:=zM ((by rw [hg];exact Nat.ne_of_lt (blk_lt (g:=gb219) (o:=.cells #[.int .i64 a0_0,.int .i64 a0_1] 27 (0,0)) (by (with_reducible repeat (first|refine bA ?_ _|refine bB ?_|refine bC ?_ _));exact BK219.out)):gb219 ≠ gb239))
                have n8_:=zM ((by rw [hg];exact Nat.ne_of_gt (blk_lt (g:=gb219) (o:=.cells #[.int .i64 a0_0,.int .i64 a0_1] 27 (0,0)) (by (with_reducible repeat (first|refine bA ?_ _|refine bB ?_|refine bC ?_ _));exact BK219.out)):gb239 ≠ gb219))
                have n9_:=zM ((by rw [hg];exact Nat.ne_of_lt (blk_lt (g:=gb220) (o:=.cells #[.int .i64 x221000_40,.int .i64 x221001_40] 40 (0,0)) (by (with_reducible repeat (first|refine bA ?_ _|refine bB ?_|refine bC ?_ _));exact BK220.out)):gb220 ≠ gb239))
                have n10_:=zM ((by rw [hg];exact Nat.ne_of_gt (blk_lt (g:=gb220) (o:=.cells #[.int .i64 x221000_40,.int .i64 x221001_40] 40 (0,0)) (by (with_reducible repeat (first|refine bA ?_ _|refine bB ?_|refine bC ?_ _));exact BK220.out)):gb239 ≠ gb220))
                have n11_:=zM ((by rw [hg];exact Nat.ne_of_lt (blk_lt (g:=gb234) (o:=.cells #[.int .i64 t231,.int .i64 t232] 40 (0,0)) (by (with_reducible repeat (first|refine bA ?_ _|refine bB ?_|refine bC ?_ _));exact BK234.out)):gb234 ≠ gb239))
                have n12_:=zM ((by rw [hg];exact Nat.ne_of_gt (blk_lt (g:=gb234) (o:=.cells #[.int .i64 t231,.int .i64 t232] 40 (0,0)) (by (with_reducible repeat (first|refine bA ?_ _|refine bB ?_|refine bC ?_ _));exact BK234.out)):gb239 ≠ gb234))
                clear BK219
                clear BK220
                clear BK234
                clear HB
                have BK219:=n0_
                have BK220:=n1_
                have BK234:=n2_
                have HB:=n3_
                have BK239:=n4_
                have GW239:=n5_
                have GE239:=n6_
                have NB219_239:=n7_
                have NB239_219:=n8_
                have NB220_239:=n9_
                have NB239_220:=n10_
                have NB234_239:=n11_
                have NB239_234:=n12_
                clear n0_ n1_ n2_ n3_ n4_ n5_ n6_ n7_ n8_ n9_ n10_ n11_ n12_
                clear hb hbox hg
                refine hK.out _ _ ⟨(blk_cell BK234.out 0).trans rfl,(blk_cell BK234.out 1).trans rfl,((HB.out.cell (World.block_lt_of_cell? w _ hw235_0)).trans hw235_0),((HB.out.cell (World.block_lt_of_cell? w _ hw235_1)).trans hw235_1),((HB.out.cell (World.block_lt_of_cell? w _ hw237_0)).trans hw237_0),((HB.out.cell (World.block_lt_of_cell? w _ hw237_1)).trans hw237_1)⟩ (fun hHeld=>?_)
                clear hK K
                refine norm_ (a':=?_) ?_ ?_
                rotate_left
                ·show Act.put _ (some 17) _ = _
                 simp only [Act.put,zS,z0,z1,i64_w,i32_w]
                 rfl
                exact norm_ (by simp only [putAll,Act.put,zS,z0,z1]) (hCont (gb239) _ ⟨hHeld,(by (with_reducible repeat (first|refine bA ?_ _|refine bB ?_|refine bC ?_ _));exact BK219.out),(by (with_reducible repeat (first|refine bA ?_ _|refine bB ?_|refine bC ?_ _));exact BK220.out),(by (with_reducible repeat (first|refine bA ?_ _|refine bB ?_|refine bC ?_ _));exact BK234.out),(by (with_reducible repeat (first|refine bA ?_ _|refine bB ?_|refine bC ?_ _));exact BK239.out),GW239.out,GE239.out,NB219_239.out,NB239_219.out,NB220_239.out,NB239_220.out,NB234_239.out,NB239_234.out,(by repeat (first|(with_reducible first|exact HB.out|apply bE|apply bD|apply bF|refine below_set ?_ GE219.out|refine below_set ?_ GE220.out|refine below_set ?_ GE234.out|refine below_set ?_ GE239.out)|exact HB.out))⟩)
               ·skip
                refine box_step ?hg (N:=17) ?hd (cs:=#[.int .i64 0,.int .i64 0]) (t:=40) ?hr ?_;(case hd=>rfl);(case hg=>rfl);(case hr=>first|(go_simp;done)|(go_simp;rfl))
                intro gb239 hg w60 hbox hb
                have n0_:=zM (blk_below (g:=gb219) (o:=.cells #[.int .i64 a0_0,.int .i64 a0_1] 27 (0,0)) (by (with_reducible repeat (first|refine bA ?_ _|refine bB ?_|refine bC ?_ _));exact BK219.out) hb)
                have n1_:=zM (blk_below (g:=gb220) (o:=.cells #[.int .i64 x221000_40,.int .i64 x221001_40] 40 (0,0)) (by (with_reducible repeat (first|refine bA ?_ _|refine bB ?_|refine bC ?_ _));exact BK220.out) hb)
                have n2_:=zM (blk_below (g:=gb234) (o:=.cells #[.int .i64 t231,.int .i64 t232] 40 (0,0)) (by (with_reducible repeat (first|refine bA ?_ _|refine bB ?_|refine bC ?_ _));exact BK234.out) hb)
                have n3_:=zM (bG (by repeat (first|(with_reducible first|exact HB.out|apply bE|apply bD|apply bF|refine below_set ?_ GE219.out|refine below_set ?_ GE220.out|refine below_set ?_ GE234.out)|exact HB.out)) hb)
                have n4_:=zM (hbox)
                have n5_:=zM ((by rw [hg];exact (below_size (by repeat (first|(with_reducible first|exact HB.out|apply bE|apply bD|apply bF|refine below_set ?_ GE219.out|refine below_set ?_ GE220.out|refine below_set ?_ GE234.out)|exact HB.out))):w.heap.size ≤ gb239))
                have n6_:=zM ((by rw [hg];exact (below_size (by repeat (first|(with_reducible first|exact HB.out|apply bE|apply bD|apply bF|refine below_set ?_ GE219.out|refine below_set ?_ GE220.out|refine below_set ?_ GE234.out)|exact HB.out))):w.heap.size ≤ gb239))
                have n7_:=zM ((by rw [hg];exact Nat.ne_of_lt (blk_lt (g:=gb219) (o:=.cells #[.int .i64 a0_0,.int .i64 a0_1] 27 (0,0)) (by (with_reducible repeat (first|refine bA ?_ _|refine bB ?_|refine bC ?_ _));exact BK219.out)):gb219 ≠ gb239))
                have n8_:=zM ((by rw [hg];exact Nat.ne_of_gt (blk_lt (g:=gb219) (o:=.cells #[.int .i64 a0_0,.int .i64 a0_1] 27 (0,0)) (by (with_reducible repeat (first|refine bA ?_ _|refine bB ?_|refine bC ?_ _));exact BK219.out)):gb239 ≠ gb219))
                have n9_:=zM ((by rw [hg];exact Nat.ne_of_lt (blk_lt (g:=gb220) (o:=.cells #[.int .i64 x221000_40,.int .i64 x221001_40] 40 (0,0)) (by (with_reducible repeat (first|refine bA ?_ _|refine bB ?_|refine bC ?_ _));exact BK220.out)):gb220 ≠ gb239))
                have n10_:=zM ((by rw [hg];exact Nat.ne_of_gt (blk_lt (g:=gb220) (o:=.cells #[.int .i64 x221000_40,.int .i64 x221001_40] 40 (0,0)) (by (with_reducible repeat (first|refine bA ?_ _|refine bB ?_|refine bC ?_ _));exact BK220.out)):gb239 ≠ gb220))
                have n11_:=zM ((by rw [hg];exact Nat.ne_of_lt (blk_lt (g:=gb234) (o:=.cells #[.int .i64 t231,.int .i64 t232] 40 (0,0)) (by (with_reducible repeat (first|refine bA ?_ _|refine bB ?_|refine bC ?_ _));exact BK234.out)):gb234 ≠ gb239))
                have n12_:=zM ((by rw [hg];exact Nat.ne_of_gt (blk_lt (g:=gb234) (o:=.cells #[.int .i64 t231,.int .i64 t232] 40 (0,0)) (by (with_reducible repeat (first|refine bA ?_ _|refine bB ?_|refine bC ?_ _));exact BK234.out)):gb239 ≠ gb234))
                clear BK219
                clear BK220
                clear BK234
                clear HB
                have BK219:=n0_
                have BK220:=n1_
                have BK234:=n2_
                have HB:=n3_
                have BK239:=n4_
                have GW239:=n5_
                have GE239:=n6_
                have NB219_239:=n7_
                have NB239_219:=n8_
                have NB220_239:=n9_
                have NB239_220:=n10_
                have NB234_239:=n11_
                have NB239_234:=n12_
                clear n0_ n1_ n2_ n3_ n4_ n5_ n6_ n7_ n8_ n9_ n10_ n11_ n12_
                clear hb hbox hg
                refine hK.out _ _ ⟨(blk_cell BK234.out 0).trans rfl,(blk_cell BK234.out 1).trans rfl,((HB.out.cell (World.block_lt_of_cell? w _ hw235_0)).trans hw235_0),((HB.out.cell (World.block_lt_of_cell? w _ hw235_1)).trans hw235_1),((HB.out.cell (World.block_lt_of_cell? w _ hw237_0)).trans hw237_0),((HB.out.cell (World.block_lt_of_cell? w _ hw237_1)).trans hw237_1)⟩ (fun hHeld=>?_)
                clear hK K
                refine norm_ (a':=?_) ?_ ?_
                rotate_left
                ·show Act.put _ (some 17) _ = _
                 simp only [Act.put,zS,z0,z1,i64_w,i32_w]
                 rfl
                refine one_ (i:=14) (N:=some 93) #[true,true,true,true,true,true,true,true,true,true,true,true,true,true,true,true,true,false,false,true,false] rfl rfl (one_of HT_.out (by kernel_rfl)) (by decide) (fun K hK=>?_)
                refine goesW_ Try.func61 (by kernel_rfl) rfl #[.agg #[.int .i64 ((rd_T38 l1 x14_28).f0),.int .i64 ((rd_T38 l1 x14_28).f1)]] (by rfl) rfl rfl (by (try simp only [List.map_toArray,List.map_cons,List.map_nil]);first|done|rfl) ?_
                with_reducible refine (impl_countOf.calls ((rd_T38 l1 x14_28).f0) ((rd_T38 l1 x14_28).f1) t238 _ A56.out).mono ?_
                rintro e w61 ⟨rfl,hb⟩
                refine ⟨_,rfl,?_⟩
                have n0_:=zM (blk_below (g:=gb219) (o:=.cells #[.int .i64 a0_0,.int .i64 a0_1] 27 (0,0)) (by (with_reducible repeat (first|refine bA ?_ _|refine bB ?_|refine bC ?_ _));exact BK219.out) hb)
                have n1_:=zM (blk_below (g:=gb220) (o:=.cells #[.int .i64 x221000_40,.int .i64 x221001_40] 40 (0,0)) (by (with_reducible repeat (first|refine bA ?_ _|refine bB ?_|refine bC ?_ _));exact BK220.out) hb)
                have n2_:=zM (blk_below (g:=gb234) (o:=.cells #[.int .i64 t231,.int .i64 t232] 40 (0,0)) (by (with_reducible repeat (first|refine bA ?_ _|refine bB ?_|refine bC ?_ _));exact BK234.out) hb)
                have n3_:=zM (blk_below (g:=gb239) (o:=.cells #[.int .i64 0,.int .i64 0] 40 (0,0)) (by (with_reducible repeat (first|refine bA ?_ _|refine bB ?_|refine bC ?_ _));exact BK239.out) hb)
                have n4_:=zM (bG (by repeat (first|(with_reducible first|exact HB.out|apply bE|apply bD|apply bF|refine below_set ?_ GE219.out|refine below_set ?_ GE220.out|refine below_set ?_ GE234.out|refine below_set ?_ GE239.out)|exact HB.out)) hb)
                clear BK219
                clear BK220
                clear BK234
                clear BK239
                clear HB
                have BK219:=n0_
                have BK220:=n1_
                have BK234:=n2_
                have BK239:=n3_
                have HB:=n4_
                clear n0_ n1_ n2_ n3_ n4_
                (try clear hb)
                (try clear hb2)
                (try clear hk)
                (try clear hi)
                refine hK.out _ _ ⟨(blk_cell BK234.out 0).trans rfl,(blk_cell BK234.out 1).trans rfl,((HB.out.cell (World.block_lt_of_cell? w _ hw235_0)).trans hw235_0),((HB.out.cell (World.block_lt_of_cell? w _ hw235_1)).trans hw235_1),((HB.out.cell (World.block_lt_of_cell? w _ hw237_0)).trans hw237_0),((HB.out.cell (World.block_lt_of_cell? w _ hw237_1)).trans hw237_1)⟩ (fun hHeld=>?_)
                clear hK K
                refine norm_ (a':=?_) ?_ ?_
                rotate_left
                ·show Act.put _ (some 93) _ = _
                 simp only [Act.put,zS,z0,z1,i64_w,i32_w]
                 rfl
                refine pure_ (i:=17) (N:=some 96) (v:=?_) (a':=?_) #[true,true,true,true,true,true,true,true,true,true,true,true,true,true,true,true,true,true,false,true,false] rfl rfl (any_of HT_.out (by kernel_rfl)) (fun _ _ _ h=>h) (Or.inl ⟨by rfl,?_⟩) ?_ ?_
                rotate_left
                ·intro w'
                 go_simp
                 with_reducible rfl
                rotate_left
                ·simp only [Act.put,zS,z0,z1,i64_w,i32_w]
                 rfl
                refine pure_ (i:=18) (N:=some 97) (v:=?_) (a':=?_) #[true,true,true,true,true,true,true,true,true,true,true,true,true,true,true,true,true,true,true,true,false] rfl rfl (any_of HT_.out (by kernel_rfl)) (fun _ _ _ h=>h) (Or.inl ⟨by rfl,?_⟩) ?_ ?_
                rotate_left
                ·intro w'
                 go_simp
                 with_reducible rfl
                rotate_left
                ·simp only [Act.put,zS,z0,z1,i64_w,i32_w]
                 rfl
                exact norm_ (by simp only [putAll,Act.put,zS,z0,z1]) (hCont (gb239) _ ⟨hHeld,(by (with_reducible repeat (first|refine bA ?_ _|refine bB ?_|refine bC ?_ _));exact BK219.out),(by (with_reducible repeat (first|refine bA ?_ _|refine bB ?_|refine bC ?_ _));exact BK220.out),(by (with_reducible repeat (first|refine bA ?_ _|refine bB ?_|refine bC ?_ _));exact BK234.out),(by (with_reducible repeat (first|refine bA ?_ _|refine bB ?_|refine bC ?_ _));exact BK239.out),GW239.out,GE239.out,NB219_239.out,NB239_219.out,NB220_239.out,NB239_220.out,NB234_239.out,NB239_234.out,(by repeat (first|(with_reducible first|exact HB.out|apply bE|apply bD|apply bF|refine below_set ?_ GE219.out|refine below_set ?_ GE220.out|refine below_set ?_ GE234.out|refine below_set ?_ GE239.out)|exact HB.out))⟩)
              ·skip
               refine box_step ?hg (N:=17) ?hd (cs:=#[.int .i64 0,.int .i64 0]) (t:=40) ?hr ?_;(case hd=>rfl);(case hg=>rfl);(case hr=>first|(go_simp;done)|(go_simp;rfl))
               intro gb239 hg w59 hbox hb
               have n0_:=zM (blk_below (g:=gb219) (o:=.cells #[.int .i64 a0_0,.int .i64 a0_1] 27 (0,0)) (by (with_reducible repeat (first|refine bA ?_ _|refine bB ?_|refine bC ?_ _));exact BK219.out) hb)
               have n1_:=zM (blk_below (g:=gb220) (o:=.cells #[.int .i64 x221000_40,.int .i64 x221001_40] 40 (0,0)) (by (with_reducible repeat (first|refine bA ?_ _|refine bB ?_|refine bC ?_ _));exact BK220.out) hb)
               have n2_:=zM (blk_below (g:=gb234) (o:=.cells #[.int .i64 t231,.int .i64 t232] 40 (0,0)) (by (with_reducible repeat (first|refine bA ?_ _|refine bB ?_|refine bC ?_ _));exact BK234.out) hb)
               have n3_:=zM (bG (by repeat (first|(with_reducible first|exact HB.out|apply bE|apply bD|apply bF|refine below_set ?_ GE219.out|refine below_set ?_ GE220.out|refine below_set ?_ GE234.out)|exact HB.out)) hb)
               have n4_:=zM (hbox)
               have n5_:=zM ((by rw [hg];exact (below_size (by repeat (first|(with_reducible first|exact HB.out|apply bE|apply bD|apply bF|refine below_set ?_ GE219.out|refine below_set ?_ GE220.out|refine below_set ?_ GE234.out)|exact HB.out))):w.heap.size ≤ gb239))
               have n6_:=zM ((by rw [hg];exact (below_size (by repeat (first|(with_reducible first|exact HB.out|apply bE|apply bD|apply bF|refine below_set ?_ GE219.out|refine below_set ?_ GE220.out|refine below_set ?_ GE234.out)|exact HB.out))):w.heap.size ≤ gb239))
               have n7_:=zM ((by rw [hg];exact Nat.ne_of_lt (blk_lt (g:=gb219) (o:=.cells #[.int .i64 a0_0,.int .i64 a0_1] 27 (0,0)) (by (with_reducible repeat (first|refine bA ?_ _|refine bB ?_|refine bC ?_ _));exact BK219.out)):gb219 ≠ gb239))
               have n8_:=zM ((by rw [hg];exact Nat.ne_of_gt (blk_lt (g:=gb219) (o:=.cells #[.int .i64 a0_0,.int .i64 a0_1] 27 (0,0)) (by (with_reducible repeat (first|refine bA ?_ _|refine bB ?_|refine bC ?_ _));exact BK219.out)):gb239 ≠ gb219))
               have n9_:=zM ((by rw [hg];exact Nat.ne_of_lt (blk_lt (g:=gb220) (o:=.cells #[.int .i64 x221000_40,.int .i64 x221001_40] 40 (0,0)) (by (with_reducible repeat (first|refine bA ?_ _|refine bB ?_|refine bC ?_ _));exact BK220.out)):gb220 ≠ gb239))
               have n10_:=zM ((by rw [hg];exact Nat.ne_of_gt (blk_lt (g:=gb220) (o:=.cells #[.int .i64 x221000_40,.int .i64 x221001_40] 40 (0,0)) (by (with_reducible repeat (first|refine bA ?_ _|refine bB ?_|refine bC ?_ _));exact BK220.out)):gb239 ≠ gb220))
               have n11_:=zM ((by rw [hg];exact Nat.ne_of_lt (blk_lt (g:=gb234) (o:=.cells #[.int .i64 t231,.int .i64 t232] 40 (0,0)) (by (with_reducible repeat (first|refine bA ?_ _|refine bB ?_|refine bC ?_ _));exact BK234.out)):gb234 ≠ gb239))
               have n12_:=zM ((by rw [hg];exact Nat.ne_of_gt (blk_lt (g:=gb234) (o:=.cells #[.int .i64 t231,.int .i64 t232] 40 (0,0)) (by (with_reducible repeat (first|refine bA ?_ _|refine bB ?_|refine bC ?_ _));exact BK234.out)):gb239 ≠ gb234))
               clear BK219
               clear BK220
               clear BK234
               clear HB
               have BK219:=n0_
               have BK220:=n1_
               have BK234:=n2_
               have HB:=n3_
               have BK239:=n4_
               have GW239:=n5_
               have GE239:=n6_
               have NB219_239:=n7_
               have NB239_219:=n8_
               have NB220_239:=n9_
               have NB239_220:=n10_
               have NB234_239:=n11_
               have NB239_234:=n12_
               clear n0_ n1_ n2_ n3_ n4_ n5_ n6_ n7_ n8_ n9_ n10_ n11_ n12_
               clear hb hbox hg
               refine hK.out _ _ ⟨(blk_cell BK234.out 0).trans rfl,(blk_cell BK234.out 1).trans rfl,((HB.out.cell (World.block_lt_of_cell? w _ hw235_0)).trans hw235_0),((HB.out.cell (World.block_lt_of_cell? w _ hw235_1)).trans hw235_1),((HB.out.cell (World.block_lt_of_cell? w _ hw237_0)).trans hw237_0),((HB.out.cell (World.block_lt_of_cell? w _ hw237_1)).trans hw237_1)⟩ (fun hHeld=>?_)
               clear hK K
               refine norm_ (a':=?_) ?_ ?_
               rotate_left
               ·show Act.put _ (some 17) _ = _
                simp only [Act.put,zS,z0,z1,i64_w,i32_w]
                rfl
               refine one_ (i:=5) (N:=some 84) #[true,true,true,true,true,true,true,true,false,true,true,true,true,true,false,true,true,false,false,true,false] rfl rfl (one_of HT_.out (by kernel_rfl)) (by decide) (fun K hK=>?_)
               refine goesW_ Try.func61 (by kernel_rfl) rfl #[.agg #[.int .i64 ((rd_T38 l1 x14_28).f0),.int .i64 ((rd_T38 l1 x14_28).f1)]] (by rfl) rfl rfl (by (try simp only [List.map_toArray,List.map_cons,List.map_nil]);first|done|rfl) ?_
               with_reducible refine (impl_countOf.calls ((rd_T38 l1 x14_28).f0) ((rd_T38 l1 x14_28).f1) t236 _ A55.out).mono ?_
               rintro e w60 ⟨rfl,hb⟩
               refine ⟨_,rfl,?_⟩
               have n0_:=zM (blk_below (g:=gb219) (o:=.cells #[.int .i64 a0_0,.int .i64 a0_1] 27 (0,0)) (by (with_reducible repeat (first|refine bA ?_ _|refine bB ?_|refine bC ?_ _));exact BK219.out) hb)
               have n1_:=zM (blk_below (g:=gb220) (o:=.cells #[.int .i64 x221000_40,.int .i64 x221001_40] 40 (0,0)) (by (with_reducible repeat (first|refine bA ?_ _|refine bB ?_|refine bC ?_ _));exact BK220.out) hb)
               have n2_:=zM (blk_below (g:=gb234) (o:=.cells #[.int .i64 t231,.int .i64 t232] 40 (0,0)) (by (with_reducible repeat (first|refine bA ?_ _|refine bB ?_|refine bC ?_ _));exact BK234.out) hb)
               have n3_:=zM (blk_below (g:=gb239) (o:=.cells #[.int .i64 0,.int .i64 0] 40 (0,0)) (by (with_reducible repeat (first|refine bA ?_ _|refine bB ?_|refine bC ?_ _));exact BK239.out) hb)
               have n4_:=zM (bG (by repeat (first|(with_reducible first|exact HB.out|apply bE|apply bD|apply bF|refine below_set ?_ GE219.out|refine below_set ?_ GE220.out|refine below_set ?_ GE234.out|refine below_set ?_ GE239.out)|exact HB.out)) hb)
               clear BK219
               clear BK220
               clear BK234
               clear BK239
               clear HB
               have BK219:=n0_
               have BK220:=n1_
               have BK234:=n2_
               have BK239:=n3_
               have HB:=n4_
               clear n0_ n1_ n2_ n3_ n4_
               (try clear hb)
               (try clear hb2)
               (try clear hk)
               (try clear hi)
               refine hK.out _ _ ⟨(blk_cell BK234.out 0).trans rfl,(blk_cell BK234.out 1).trans rfl,((HB.out.cell (World.block_lt_of_cell? w _ hw235_0)).trans hw235_0),((HB.out.cell (World.block_lt_of_cell? w _ hw235_1)).trans hw235_1),((HB.out.cell (World.block_lt_of_cell? w _ hw237_0)).trans hw237_0),((HB.out.cell (World.block_lt_of_cell? w _ hw237_1)).trans hw237_1)⟩ (fun hHeld=>?_)
               clear hK K
               refine norm_ (a':=?_) ?_ ?_
               rotate_left
               ·show Act.put _ (some 84) _ = _
                simp only [Act.put,zS,z0,z1,i64_w,i32_w]
                rfl
               refine pure_ (i:=8) (N:=some 87) (v:=?_) (a':=?_) #[true,true,true,true,true,true,true,true,true,true,true,true,true,true,false,true,true,false,false,true,false] rfl rfl (any_of HT_.out (by kernel_rfl)) (fun _ _ _ h=>h) (Or.inl ⟨by rfl,?_⟩) ?_ ?_
               rotate_left
               ·intro w'
                go_simp
                with_reducible rfl
               rotate_left
               ·simp only [Act.put,zS,z0,z1,i64_w,i32_w]
                rfl
               refine one_ (i:=14) (N:=some 93) #[true,true,true,true,true,true,true,true,true,true,true,true,true,true,true,true,true,false,false,true,false] rfl rfl (one_of HT_.out (by kernel_rfl)) (by decide) (fun K hK=>?_)
               refine goesW_ Try.func61 (by kernel_rfl) rfl #[.agg #[.int .i64 ((rd_T38 l1 x14_28).f0),.int .i64 ((rd_T38 l1 x14_28).f1)]] (by rfl) rfl rfl (by (try simp only [List.map_toArray,List.map_cons,List.map_nil]);first|done|rfl) ?_
               with_reducible refine (impl_countOf.calls ((rd_T38 l1 x14_28).f0) ((rd_T38 l1 x14_28).f1) t238 _ A56.out).mono ?_
               rintro e w61 ⟨rfl,hb⟩
               refine ⟨_,rfl,?_⟩
               have n0_:=zM (blk_below (g:=gb219) (o:=.cells #[.int .i64 a0_0,.int .i64 a0_1] 27 (0,0)) (by (with_reducible repeat (first|refine bA ?_ _|refine bB ?_|refine bC ?_ _));exact BK219.out) hb)
               have n1_:=zM (blk_below (g:=gb220) (o:=.cells #[.int .i64 x221000_40,.int .i64 x221001_40] 40 (0,0)) (by (with_reducible repeat (first|refine bA ?_ _|refine bB ?_|refine bC ?_ _));exact BK220.out) hb)
               have n2_:=zM (blk_below (g:=gb234) (o:=.cells #[.int .i64 t231,.int .i64 t232] 40 (0,0)) (by (with_reducible repeat (first|refine bA ?_ _|refine bB ?_|refine bC ?_ _));exact BK234.out) hb)
               have n3_:=zM (blk_below (g:=gb239) (o:=.cells #[.int .i64 0,.int .i64 0] 40 (0,0)) (by (with_reducible repeat (first|refine bA ?_ _|refine bB ?_|refine bC ?_ _));exact BK239.out) hb)
               have n4_:=zM (bG (by repeat (first|(with_reducible first|exact HB.out|apply bE|apply bD|apply bF|refine below_set ?_ GE219.out|refine below_set ?_ GE220.out|refine below_set ?_ GE234.out|refine below_set ?_ GE239.out)|exact HB.out)) hb)
               clear BK219
               clear BK220
               clear BK234
               clear BK239
               clear HB
               have BK219:=n0_
               have BK220:=n1_
               have BK234:=n2_
               have BK239:=n3_
               have HB:=n4_
               clear n0_ n1_ n2_ n3_ n4_
               (try clear hb)
               (try clear hb2)
               (try clear hk)
               (try clear hi)
               refine hK.out _ _ ⟨(blk_cell BK234.out 0).trans rfl,(blk_cell BK234.out 1).trans rfl,((HB.out.cell (World.block_lt_of_cell? w _ hw235_0)).trans hw235_0),((HB.out.cell (World.block_lt_of_cell? w _ hw235_1)).trans hw235_1),((HB.out.cell (World.block_lt_of_cell? w _ hw237_0)).trans hw237_0),((HB.out.cell (World.block_lt_of_cell? w _ hw237_1)).trans hw237_1)⟩ (fun hHeld=>?_)
               clear hK K
               refine norm_ (a':=?_) ?_ ?_
               rotate_left
               ·show Act.put _ (some 93) _ = _
                simp only [Act.put,zS,z0,z1,i64_w,i32_w]
                rfl
               refine pure_ (i:=17) (N:=some 96) (v:=?_) (a':=?_) #[true,true,true,true,true,true,true,true,true,true,true,true,true,true,true,true,true,true,false,true,false] rfl rfl (any_of HT_.out (by kernel_rfl)) (fun _ _ _ h=>h) (Or.inl ⟨by rfl,?_⟩) ?_ ?_
               rotate_left
               ·intro w'
                go_simp
                with_reducible rfl
               rotate_left
               ·simp only [Act.put,zS,z0,z1,i64_w,i32_w]
                rfl
               refine pure_ (i:=18) (N:=some 97) (v:=?_) (a':=?_) #[true,true,true,true,true,true,true,true,true,true,true,true,true,true,true,true,true,true,true,true,false] rfl rfl (any_of HT_.out (by kernel_rfl)) (fun _ _ _ h=>h) (Or.inl ⟨by rfl,?_⟩) ?_ ?_
               rotate_left
               ·intro w'
                go_simp
                with_reducible rfl
               rotate_left
               ·simp only [Act.put,zS,z0,z1,i64_w,i32_w]
                rfl
               exact norm_ (by simp only [putAll,Act.put,zS,z0,z1]) (hCont (gb239) _ ⟨hHeld,(by (with_reducible repeat (first|refine bA ?_ _|refine bB ?_|refine bC ?_ _));exact BK219.out),(by (with_reducible repeat (first|refine bA ?_ _|refine bB ?_|refine bC ?_ _));exact BK220.out),(by (with_reducible repeat (first|refine bA ?_ _|refine bB ?_|refine bC ?_ _));exact BK234.out),(by (with_reducible repeat (first|refine bA ?_ _|refine bB ?_|refine bC ?_ _));exact BK239.out),GW239.out,GE239.out,NB219_239.out,NB239_219.out,NB220_239.out,NB239_220.out,NB234_239.out,NB239_234.out,(by repeat (first|(with_reducible first|exact HB.out|apply bE|apply bD|apply bF|refine below_set ?_ GE219.out|refine below_set ?_ GE220.out|refine below_set ?_ GE234.out|refine below_set ?_ GE239.out)|exact HB.out))⟩)
             rintro gb239 w62 ⟨hS_,h0_,h1_,h2_,h3_,h4_,h5_,h6_,h7_,h8_,h9_,h10_,h11_,h12_⟩
             have n0_:Aside0 (w62.heap[gb219]? = some (.cells #[.int .i64 a0_0,.int .i64 a0_1] 27 (0,0))):=⟨h0_⟩
             have n1_:Aside0 (w62.heap[gb220]? = some (.cells #[.int .i64 x221000_40,.int .i64 x221001_40] 40 (0,0))):=⟨h1_⟩
             have n2_:Aside0 (w62.heap[gb234]? = some (.cells #[.int .i64 t231,.int .i64 t232] 40 (0,0))):=⟨h2_⟩
             have n3_:Aside0 (w62.heap[gb239]? = some (.cells #[.int .i64 0,.int .i64 0] 40 (0,0))):=⟨h3_⟩
             have n4_:Aside0 (w.heap.size ≤ gb239):=⟨h4_⟩
             have n5_:Aside0 (w.heap.size ≤ gb239):=⟨h5_⟩
             have n6_:Aside0 (gb219 ≠ gb239):=⟨h6_⟩
             have n7_:Aside0 (gb239 ≠ gb219):=⟨h7_⟩
             have n8_:Aside0 (gb220 ≠ gb239):=⟨h8_⟩
             have n9_:Aside0 (gb239 ≠ gb220):=⟨h9_⟩
             have n10_:Aside0 (gb234 ≠ gb239):=⟨h10_⟩
             have n11_:Aside0 (gb239 ≠ gb234):=⟨h11_⟩
             have n12_:Aside0 (Below w.heap.size w w62):=⟨h12_⟩
             clear BK219
             clear BK220
             clear BK234
             clear HB
             clear h0_ h1_ h2_ h3_ h4_ h5_ h6_ h7_ h8_ h9_ h10_ h11_ h12_
             have BK219:=n0_
             have BK220:=n1_
             have BK234:=n2_
             have BK239:=n3_
             have GW239:=n4_
             have GE239:=n5_
             have NB219_239:=n6_
             have NB239_219:=n7_
             have NB220_239:=n8_
             have NB239_220:=n9_
             have NB234_239:=n10_
             have NB239_234:=n11_
             have HB:=n12_
             clear n0_ n1_ n2_ n3_ n4_ n5_ n6_ n7_ n8_ n9_ n10_ n11_ n12_
             have hHeld:w62.cell? ⟨gb234,0,none⟩ = some (.int .i64 t231) ∧ w62.cell? ⟨gb234,1,none⟩ = some (.int .i64 t232) ∧ w62.cell? (ad229.add ((x14_28).toNat * 2)) = some (.int .i64 ((rd_T38 l1 x14_28).f0)) ∧ w62.cell? ⟨(ad229.add ((x14_28).toNat * 2)).block,(ad229.add ((x14_28).toNat * 2)).off + 1,none⟩ = some (.int .i64 ((rd_T38 l1 x14_28).f1)) ∧ w62.cell? (ad229.add ((x14_28).toNat * 2)) = some (.int .i64 ((rd_T38 l1 x14_28).f0)) ∧ w62.cell? ⟨(ad229.add ((x14_28).toNat * 2)).block,(ad229.add ((x14_28).toNat * 2)).off + 1,none⟩ = some (.int .i64 ((rd_T38 l1 x14_28).f1)):=hS_
             refine norm_ (a':=?_) ?_ ?_
             rotate_left
             ·simp only [putAll,Act.put,zS,z0,z1]
              rfl
             refine one_ (i:=20) (N:=none) #[true,true,true,true,true,true,true,true,true,true,true,true,true,true,true,true,true,true,true,true,true] rfl rfl (one_of HT_.out (by kernel_rfl)) (by decide) (fun K hK=>?_)
             have hs63:w62.cell? ⟨gb239,0,none⟩ = some (.int .i64 0):=(blk_cell BK239.out 0).trans rfl
             have hfs63:=blk_frozen BK239.out 0
             have hns63_0:=NB219_239.out
             have hns63_1:=NB220_239.out
             have hns63_2:=NB234_239.out
             have hms63_0:=NB239_219.out
             have hms63_1:=NB239_220.out
             have hms63_2:=NB239_234.out
             have hs64:w62.cell? ⟨gb239,1,none⟩ = some (.int .i64 0):=(blk_cell BK239.out 1).trans rfl
             have hfs64:=blk_frozen BK239.out 1
             have hns64_0:=NB219_239.out
             have hns64_1:=NB220_239.out
             have hns64_2:=NB234_239.out
             have hms64_0:=NB239_219.out
             have hms64_1:=NB239_220.out
             have hms64_2:=NB239_234.out
             refine skip_ (w1:=?_) (by rfl) rfl ?_ ?_
             rotate_left
             ·go_simp
              rfl
             refine hK.out _ _ ⟨((cell_far (p:=⟨gb239,_,none⟩) NB234_239.out _).trans (((cell_far (p:=⟨gb239,_,none⟩) NB234_239.out _).trans (hHeld.1)))),((cell_far (p:=⟨gb239,_,none⟩) NB234_239.out _).trans (((cell_far (p:=⟨gb239,_,none⟩) NB234_239.out _).trans (hHeld.2.1)))),((cell_far (p:=⟨gb239,_,none⟩) (by first|exact Nat.ne_of_lt (Nat.lt_of_lt_of_le (by have:=World.block_lt_of_cell? _ _ hw235_0;first|rwa [add_block] at this|exact this) GW239.out)|(rw [add_block];exact Nat.ne_of_lt (Nat.lt_of_lt_of_le (by have:=World.block_lt_of_cell? _ _ hw235_0;first|rwa [add_block] at this|exact this) GW239.out))|(show (Addr.add _ _).block ≠ _;rw [add_block];exact Nat.ne_of_lt (Nat.lt_of_lt_of_le (by have:=World.block_lt_of_cell? _ _ hw235_0;first|rwa [add_block] at this|exact this) GW239.out))|(dsimp only;exact Nat.ne_of_lt (Nat.lt_of_lt_of_le (by have:=World.block_lt_of_cell? _ _ hw235_0;first|rwa [add_block] at this|exact this) GW239.out))) _).trans (((cell_far (p:=⟨gb239,_,none⟩) (by first|exact Nat.ne_of_lt (Nat.lt_of_lt_of_le (by have:=World.block_lt_of_cell? _ _ hw235_0;first|rwa [add_block] at this|exact this) GW239.out)|(rw [add_block];exact Nat.ne_of_lt (Nat.lt_of_lt_of_le (by have:=World.block_lt_of_cell? _ _ hw235_0;first|rwa [add_block] at this|exact this) GW239.out))|(show (Addr.add _ _).block ≠ _;rw [add_block];exact Nat.ne_of_lt (Nat.lt_of_lt_of_le (by have:=World.block_lt_of_cell? _ _ hw235_0;first|rwa [add_block] at this|exact this) GW239.out))|(dsimp only;exact Nat.ne_of_lt (Nat.lt_of_lt_of_le (by have:=World.block_lt_of_cell? _ _ hw235_0;first|rwa [add_block] at this|exact this) GW239.out))) _).trans (hHeld.2.2.1)))),((cell_far (p:=⟨gb239,_,none⟩) (by first|exact Nat.ne_of_lt (Nat.lt_of_lt_of_le (by have:=World.block_lt_of_cell? _ _ hw235_1;first|rwa [add_block] at this|exact this) GW239.out)|(rw [add_block];exact Nat.ne_of_lt (Nat.lt_of_lt_of_le (by have:=World.block_lt_of_cell? _ _ hw235_1;first|rwa [add_block] at this|exact this) GW239.out))|(show (Addr.add _ _).block ≠ _;rw [add_block];exact Nat.ne_of_lt (Nat.lt_of_lt_of_le (by have:=World.block_lt_of_cell? _ _ hw235_1;first|rwa [add_block] at this|exact this) GW239.out))|(dsimp only;exact Nat.ne_of_lt (Nat.lt_of_lt_of_le (by have:=World.block_lt_of_cell? _ _ hw235_1;first|rwa [add_block] at this|exact this) GW239.out))) _).trans (((cell_far (p:=⟨gb239,_,none⟩) (by first|exact Nat.ne_of_lt (Nat.lt_of_lt_of_le (by have:=World.block_lt_of_cell? _ _ hw235_1;first|rwa [add_block] at this|exact this) GW239.out)|(rw [add_block];exact Nat.ne_of_lt (Nat.lt_of_lt_of_le (by have:=World.block_lt_of_cell? _ _ hw235_1;first|rwa [add_block] at this|exact this) GW239.out))|(show (Addr.add _ _).block ≠ _;rw [add_block];exact Nat.ne_of_lt (Nat.lt_of_lt_of_le (by have:=World.block_lt_of_cell? _ _ hw235_1;first|rwa [add_block] at this|exact this) GW239.out))|(dsimp only;exact Nat.ne_of_lt (Nat.lt_of_lt_of_le (by have:=World.block_lt_of_cell? _ _ hw235_1;first|rwa [add_block] at this|exact this) GW239.out))) _).trans (hHeld.2.2.2.1)))),((cell_far (p:=⟨gb239,_,none⟩) (by first|exact Nat.ne_of_lt (Nat.lt_of_lt_of_le (by have:=World.block_lt_of_cell? _ _ hw237_0;first|rwa [add_block] at this|exact this) GW239.out)|(rw [add_block];exact Nat.ne_of_lt (Nat.lt_of_lt_of_le (by have:=World.block_lt_of_cell? _ _ hw237_0;first|rwa [add_block] at this|exact this) GW239.out))|(show (Addr.add _ _).block ≠ _;rw [add_block];exact Nat.ne_of_lt (Nat.lt_of_lt_of_le (by have:=World.block_lt_of_cell? _ _ hw237_0;first|rwa [add_block] at this|exact this) GW239.out))|(dsimp only;exact Nat.ne_of_lt (Nat.lt_of_lt_of_le (by have:=World.block_lt_of_cell? _ _ hw237_0;first|rwa [add_block] at this|exact this) GW239.out))) _).trans (((cell_far (p:=⟨gb239,_,none⟩) (by first|exact Nat.ne_of_lt (Nat.lt_of_lt_of_le (by have:=World.block_lt_of_cell? _ _ hw237_0;first|rwa [add_block] at this|exact this) GW239.out)|(rw [add_block];exact Nat.ne_of_lt (Nat.lt_of_lt_of_le (by have:=World.block_lt_of_cell? _ _ hw237_0;first|rwa [add_block] at this|exact this) GW239.out))|(show (Addr.add _ _).block ≠ _;rw [add_block];exact Nat.ne_of_lt (Nat.lt_of_lt_of_le (by have:=World.block_lt_of_cell? _ _ hw237_0;first|rwa [add_block] at this|exact this) GW239.out))|(dsimp only;exact Nat.ne_of_lt (Nat.lt_of_lt_of_le (by have:=World.block_lt_of_cell? _ _ hw237_0;first|rwa [add_block] at this|exact this) GW239.out))) _).trans (hHeld.2.2.2.2.1)))),((cell_far (p:=⟨gb239,_,none⟩) (by first|exact Nat.ne_of_lt (Nat.lt_of_lt_of_le (by have:=World.block_lt_of_cell? _ _ hw237_1;first|rwa [add_block] at this|exact this) GW239.out)|(rw [add_block];exact Nat.ne_of_lt (Nat.lt_of_lt_of_le (by have:=World.block_lt_of_cell? _ _ hw237_1;first|rwa [add_block] at this|exact this) GW239.out))|(show (Addr.add _ _).block ≠ _;rw [add_block];exact Nat.ne_of_lt (Nat.lt_of_lt_of_le (by have:=World.block_lt_of_cell? _ _ hw237_1;first|rwa [add_block] at this|exact this) GW239.out))|(dsimp only;exact Nat.ne_of_lt (Nat.lt_of_lt_of_le (by have:=World.block_lt_of_cell? _ _ hw237_1;first|rwa [add_block] at this|exact this) GW239.out))) _).trans (((cell_far (p:=⟨gb239,_,none⟩) (by first|exact Nat.ne_of_lt (Nat.lt_of_lt_of_le (by have:=World.block_lt_of_cell? _ _ hw237_1;first|rwa [add_block] at this|exact this) GW239.out)|(rw [add_block];exact Nat.ne_of_lt (Nat.lt_of_lt_of_le (by have:=World.block_lt_of_cell? _ _ hw237_1;first|rwa [add_block] at this|exact this) GW239.out))|(show (Addr.add _ _).block ≠ _;rw [add_block];exact Nat.ne_of_lt (Nat.lt_of_lt_of_le (by have:=World.block_lt_of_cell? _ _ hw237_1;first|rwa [add_block] at this|exact this) GW239.out))|(dsimp only;exact Nat.ne_of_lt (Nat.lt_of_lt_of_le (by have:=World.block_lt_of_cell? _ _ hw237_1;first|rwa [add_block] at this|exact this) GW239.out))) _).trans (hHeld.2.2.2.2.2))))⟩ (fun hHeld=>?_)
             clear hK K
             refine done_ (done_of HT_.out (by kernel_rfl)) ?_
             go_upto_if 102 with (fail)
             go_cut [] (fun wc=>∃ (kq:Nat) (x221000_56:Int) (x221001_56:Int) (x240000_56:Int) (x240001_56:Int),Aside0 (impl_between_60_61_62.j6 kq x240000_56 x240001_56 = some (r1,r2,r3)) ∧ Aside0 (kq ≤ kj40) ∧ Aside0 (wc.heap[gb219]? = some (.cells #[.int .i64 a0_0,.int .i64 a0_1] 27 (0,0))) ∧ Aside0 (wc.heap[gb220]? = some (.cells #[.int .i64 x221000_56,.int .i64 x221001_56] 40 (0,0))) ∧ Aside0 (wc.heap[gb234]? = some (.cells #[.int .i64 t231,.int .i64 t232] 40 (0,0))) ∧ Aside0 (wc.heap[gb239]? = some (.cells #[.int .i64 x240000_56,.int .i64 x240001_56] 40 (0,0))) ∧ Aside0 (Below w.heap.size w wc))
             case first =>
              have H:=HC57.out
              clear HC57
              by_cases c65:(wrap64 (x14_28 + 1)) < (l1.length:Int)
              ·rw [if_pos c65] at H
               have c65b0:decide ((wrap64 (x14_28 + 1)) < (l1.length:Int)) = true:=decide_eq_true c65
               clear c65
               (first|rw [c65b0]|(simp only [i64_w,i32_w];rw [c65b0])|skip)
               obtain ⟨ji66,hji66⟩:∃ j_:Int,(wrap64 (x14_28 + 1)) = j_:=⟨_,rfl⟩
               replace H:(if 0 ≤ (ji66) then ((impl_timeOf.f ((rd_T38 l1 (ji66)).f0) ((rd_T38 l1 (ji66)).f1)).bind fun t242=>((impl_counts.f a0_0 a0_1 (wrap64 (t242 - a2))).bind fun bt243=>(if bt243.2.2 = true then (impl_between_60_61_62.j5 kj40 (wrap64 (t236 + t231)) (wrap64 (t238 + t232)) ((rd_T38 l1 (ji66)).f0) ((rd_T38 l1 (ji66)).f1) bt243.1 bt243.2.1) else (some (0,0,false))))) else (none)) = some (r1,r2,r3):=by first|(rw [hji66] at H;exact H)|(simp only [hji66] at H ⊢;exact H)
               (try rw [hji66] at c65)
               (try rw [hji66] at c65b0)
               have hji66w:(IntKind.i64.wrap (x14_28 + 1)) = ji66:=(i64_w _).trans hji66
               by_cases c67:0 ≤ (ji66)
               ·rw [if_pos c67] at H
                have c67b0:decide (0 ≤ (ji66)) = true:=decide_eq_true c67
                clear c67
                replace H:=zO H
                obtain ⟨t242,A680,H⟩:=H
                replace H:((impl_counts.f a0_0 a0_1 (wrap64 (t242 - a2))).bind fun bt243=>(if bt243.2.2 = true then (impl_between_60_61_62.j5 kj40 (wrap64 (t236 + t231)) (wrap64 (t238 + t232)) ((rd_T38 l1 (ji66)).f0) ((rd_T38 l1 (ji66)).f1) bt243.1 bt243.2.1) else (some (0,0,false)))) = some (r1,r2,r3):=H
                have A68:=zM A680
                clear A680
                replace H:=zO H
                obtain ⟨⟨t243,t244,t245⟩,A690,H⟩:=H
                replace H:(if t245 = true then (impl_between_60_61_62.j5 kj40 (wrap64 (t236 + t231)) (wrap64 (t238 + t232)) ((rd_T38 l1 (ji66)).f0) ((rd_T38 l1 (ji66)).f1) t243 t244) else (some (0,0,false))) = some (r1,r2,r3):=H
                have A69:=zM A690
                clear A690
                have HC70:=zM H
                clear H
                have p240:0 ≤ ((ji66):Int):=of_decide_eq_true (by first|(with_reducible assumption)|assumption)
                have q240:(ji66) < (l1.length:Int):=of_decide_eq_true (by first|(with_reducible assumption)|assumption)
                obtain ⟨ad240,e240,hx240_0,hx240_1⟩:=at_T38 HR1.out (ji66) p240 q240
                obtain rfl:ad229 = ad240:=(by injection e240)
                have hn240_0:ad229.block ≠ gb239:=Nat.ne_of_lt (Nat.lt_of_lt_of_le (by have:=World.block_lt_of_cell? _ _ hx240_0;first|rwa [add_block] at this|exact this) GW239.out)
                have hn240_1:ad229.block ≠ gb239:=Nat.ne_of_lt (Nat.lt_of_lt_of_le (by have:=World.block_lt_of_cell? _ _ hx240_0;first|rwa [add_block] at this|exact this) GW239.out)
                replace hx240_0:=(HB.out.cell (World.block_lt_of_cell? w _ hx240_0)).trans hx240_0
                replace hx240_1:=(HB.out.cell (World.block_lt_of_cell? w _ hx240_1)).trans hx240_1
                replace hx240_0:=(cell_far (p:=⟨gb239,0,none⟩) (by first|(rw [add_block];exact hn240_0)|(show (Addr.add _ _).block ≠ _;rw [add_block];exact hn240_0)|exact hn240_0) (.int .i64 (wrap64 (t236 + t231)))).trans hx240_0
                replace hx240_1:=(cell_far (p:=⟨gb239,0,none⟩) (by first|(rw [add_block];exact hn240_0)|(show (Addr.add _ _).block ≠ _;rw [add_block];exact hn240_0)|exact hn240_0) (.int .i64 (wrap64 (t236 + t231)))).trans hx240_1
                replace hx240_0:=(cell_far (p:=⟨gb239,1,none⟩) (by first|(rw [add_block];exact hn240_1)|(show (Addr.add _ _).block ≠ _;rw [add_block];exact hn240_1)|exact hn240_1) (.int .i64 (wrap64 (t238 + t232)))).trans hx240_0
                replace hx240_1:=(cell_far (p:=⟨gb239,1,none⟩) (by first|(rw [add_block];exact hn240_1)|(show (Addr.add _ _).block ≠ _;rw [add_block];exact hn240_1)|exact hn240_1) (.int .i64 (wrap64 (t238 + t232)))).trans hx240_1
                clear hn240_0
                clear hn240_1
                replace p240:=eq_true p240
                replace q240:=eq_true q240
                try go_wp2_with (first|((with_reducible refine gate_dst (N:=18) rfl ?_);(try (refine gate_guard (by rfl) ?_;dsimp only));refine box_event ?hg (N:=18) ?hd (cs:=#[.int .i64 0,.int .i64 0]) (t:=38) ?hr ?_;(case hd=>rfl);(case hg=>rfl);(case hr=>first|(go_simp;done)|(go_simp;rfl));intro gb241 hg w71 hbox hb;have n0_:=zM (blk_below (g:=gb219) (o:=.cells #[.int .i64 a0_0,.int .i64 a0_1] 27 (0,0)) (by (with_reducible repeat (first|refine bA ?_ _|refine bB ?_|refine bC ?_ _));refine blk_far ?_ NB219_239.out _;(with_reducible repeat (first|refine bA ?_ _|refine bB ?_|refine bC ?_ _));refine blk_far ?_ NB219_239.out _;(with_reducible repeat (first|refine bA ?_ _|refine bB ?_|refine bC ?_ _));exact BK219.out) hb);have n1_:=zM (blk_below (g:=gb220) (o:=.cells #[.int .i64 x221000_40,.int .i64 x221001_40] 40 (0,0)) (by (with_reducible repeat (first|refine bA ?_ _|refine bB ?_|refine bC ?_ _));refine blk_far ?_ NB220_239.out _;(with_reducible repeat (first|refine bA ?_ _|refine bB ?_|refine bC ?_ _));refine blk_far ?_ NB220_239.out _;(with_reducible repeat (first|refine bA ?_ _|refine bB ?_|refine bC ?_ _));exact BK220.out) hb);have n2_:=zM (blk_below (g:=gb234) (o:=.cells #[.int .i64 t231,.int .i64 t232] 40 (0,0)) (by (with_reducible repeat (first|refine bA ?_ _|refine bB ?_|refine bC ?_ _));refine blk_far ?_ NB234_239.out _;(with_reducible repeat (first|refine bA ?_ _|refine bB ?_|refine bC ?_ _));refine blk_far ?_ NB234_239.out _;(with_reducible repeat (first|refine bA ?_ _|refine bB ?_|refine bC ?_ _));exact BK234.out) hb);have n3_:=zM (blk_below (g:=gb239) (o:=.cells #[.int .i64 (wrap64 (t236 + t231)),.int .i64 (wrap64 (t238 + t232))] 40 (0,0)) (by (with_reducible repeat (first|refine bA ?_ _|refine bB ?_|refine bC ?_ _));refine bH (cs:=#[.int .i64 (wrap64 (t236 + t231)),.int .i64 0]) ?_ 1 _ rfl;(with_reducible repeat (first|refine bA ?_ _|refine bB ?_|refine bC ?_ _));refine bH (cs:=#[.int .i64 0,.int .i64 0]) ?_ 0 _ rfl;(with_reducible repeat (first|refine bA ?_ _|refine bB ?_|refine bC ?_ _));exact BK239.out) hb);have n4_:=zM (bG (by repeat (first|(with_reducible first|exact HB.out|apply bE|apply bD|apply bF|refine below_set ?_ GE219.out|refine below_set ?_ GE220.out|refine below_set ?_ GE234.out|refine below_set ?_ GE239.out)|exact HB.out)) hb);have n5_:=zM (hbox);have n6_:=zM ((by rw [hg];exact (below_size (by repeat (first|(with_reducible first|exact HB.out|apply bE|apply bD|apply bF|refine below_set ?_ GE219.out|refine below_set ?_ GE220.out|refine below_set ?_ GE234.out|refine below_set ?_ GE239.out)|exact HB.out))):w.heap.size ≤ gb241));have n7_:=zM ((by rw [hg];exact (below_size (by repeat (first|(with_reducible first|exact HB.out|apply bE|apply bD|apply bF|refine below_set ?_ GE219.out|refine below_set ?_ GE220.out|refine below_set ?_ GE234.out|refine below_set ?_ GE239.out)|exact HB.out))):w.heap.size ≤ gb241));have n8_:=zM ((by rw [hg];exact Nat.ne_of_lt (blk_lt (g:=gb219) (o:=.cells #[.int .i64 a0_0,.int .i64 a0_1] 27 (0,0)) (by (with_reducible repeat (first|refine bA ?_ _|refine bB ?_|refine bC ?_ _));refine blk_far ?_ NB219_239.out _;(with_reducible repeat (first|refine bA ?_ _|refine bB ?_|refine bC ?_ _));refine blk_far ?_ NB219_239.out _;(with_reducible repeat (first|refine bA ?_ _|refine bB ?_|refine bC ?_ _));exact BK219.out)):gb219 ≠ gb241));have n9_:=zM ((by rw [hg];exact Nat.ne_of_gt (blk_lt (g:=gb219) (o:=.cells #[.int .i64 a0_0,.int .i64 a0_1] 27 (0,0)) (by (with_reducible repeat (first|refine bA ?_ _|refine bB ?_|refine bC ?_ _));refine blk_far ?_ NB219_239.out _;(with_reducible repeat (first|refine bA ?_ _|refine bB ?_|refine bC ?_ _));refine blk_far ?_ NB219_239.out _;(with_reducible repeat (first|refine bA ?_ _|refine bB ?_|refine bC ?_ _));exact BK219.out)):gb241 ≠ gb219));have n10_:=zM ((by rw [hg];exact Nat.ne_of_lt (blk_lt (g:=gb220) (o:=.cells #[.int .i64 x221000_40,.int .i64 x221001_40] 40 (0,0)) (by (with_reducible repeat (first|refine bA ?_ _|refine bB ?_|refine bC ?_ _));refine blk_far ?_ NB220_239.out _;(with_reducible repeat (first|refine bA ?_ _|refine bB ?_|refine bC ?_ _));refine blk_far ?_ NB220_239.out _;(with_reducible repeat (first|refine bA ?_ _|refine bB ?_|refine bC ?_ _));exact BK220.out)):gb220 ≠ gb241));have n11_:=zM ((by rw [hg];exact Nat.ne_of_gt (blk_lt (g:=gb220) (o:=.cells #[.int .i64 x221000_40,.int .i64 x221001_40] 40 (0,0)) (by (with_reducible repeat (first|refine bA ?_ _|refine bB ?_|refine bC ?_ _));refine blk_far ?_ NB220_239.out _;(with_reducible repeat (first|refine bA ?_ _|refine bB ?_|refine bC ?_ _));refine blk_far ?_ NB220_239.out _;(with_reducible repeat (first|refine bA ?_ _|refine bB ?_|refine bC ?_ _));exact BK220.out)):gb241 ≠ gb220));have n12_:=zM ((by rw [hg];exact Nat.ne_of_lt (blk_lt (g:=gb234) (o:=.cells #[.int .i64 t231,.int .i64 t232] 40 (0,0)) (by (with_reducible repeat (first|refine bA ?_ _|refine bB ?_|refine bC ?_ _));refine blk_far ?_ NB234_239.out _;(with_reducible repeat (first|refine bA ?_ _|refine bB ?_|refine bC ?_ _));refine blk_far ?_ NB234_239.out _;(with_reducible repeat (first|refine bA ?_ _|refine bB ?_|refine bC ?_ _));exact BK234.out)):gb234 ≠ gb241));have n13_:=zM ((by rw [hg];exact Nat.ne_of_gt (blk_lt (g:=gb234) (o:=.cells #[.int .i64 t231,.int .i64 t232] 40 (0,0)) (by (with_reducible repeat (first|refine bA ?_ _|refine bB ?_|refine bC ?_ _));refine blk_far ?_ NB234_239.out _;(with_reducible repeat (first|refine bA ?_ _|refine bB ?_|refine bC ?_ _));refine blk_far ?_ NB234_239.out _;(with_reducible repeat (first|refine bA ?_ _|refine bB ?_|refine bC ?_ _));exact BK234.out)):gb241 ≠ gb234));have n14_:=zM ((by rw [hg];exact Nat.ne_of_lt (blk_lt (g:=gb239) (o:=.cells #[.int .i64 (wrap64 (t236 + t231)),.int .i64 (wrap64 (t238 + t232))] 40 (0,0)) (by (with_reducible repeat (first|refine bA ?_ _|refine bB ?_|refine bC ?_ _));refine bH (cs:=#[.int .i64 (wrap64 (t236 + t231)),.int .i64 0]) ?_ 1 _ rfl;(with_reducible repeat (first|refine bA ?_ _|refine bB ?_|refine bC ?_ _));refine bH (cs:=#[.int .i64 0,.int .i64 0]) ?_ 0 _ rfl;(with_reducible repeat (first|refine bA ?_ _|refine bB ?_|refine bC ?_ _));exact BK239.out)):gb239 ≠ gb241));have n15_:=zM ((by rw [hg];exact Nat.ne_of_gt (blk_lt (g:=gb239) (o:=.cells #[.int .i64 (wrap64 (t236 + t231)),.int .i64 (wrap64 (t238 + t232))] 40 (0,0)) (by (with_reducible repeat (first|refine bA ?_ _|refine bB ?_|refine bC ?_ _));refine bH (cs:=#[.int .i64 (wrap64 (t236 + t231)),.int .i64 0]) ?_ 1 _ rfl;(with_reducible repeat (first|refine bA ?_ _|refine bB ?_|refine bC ?_ _));refine bH (cs:=#[.int .i64 0,.int .i64 0]) ?_ 0 _ rfl;(with_reducible repeat (first|refine bA ?_ _|refine bB ?_|refine bC ?_ _));exact BK239.out)):gb241 ≠ gb239));clear BK219;clear BK220;clear BK234;clear BK239;clear HB;have BK219:=n0_;have BK220:=n1_;have BK234:=n2_;have BK239:=n3_;have HB:=n4_;have BK241:=n5_;have GW241:=n6_;have GE241:=n7_;have NB219_241:=n8_;have NB241_219:=n9_;have NB220_241:=n10_;have NB241_220:=n11_;have NB234_241:=n12_;have NB241_234:=n13_;have NB239_241:=n14_;have NB241_239:=n15_;clear n0_ n1_ n2_ n3_ n4_ n5_ n6_ n7_ n8_ n9_ n10_ n11_ n12_ n13_ n14_ n15_;clear hb hbox hg;have hnb72:=NB241_219.out;have hnc72:=NB219_241.out;have hnb73:=NB241_220.out;have hnc73:=NB220_241.out;have hnb74:=NB241_234.out;have hnc74:=NB234_241.out;have hnb75:=NB241_239.out;have hnc75:=NB239_241.out;have hcz76_0:w71.cell? ⟨gb241,0,none⟩ = some (.int .i64 0):=(blk_cell BK241.out 0).trans rfl;have hcz76_1:w71.cell? ⟨gb241,1,none⟩ = some (.int .i64 0):=(blk_cell BK241.out 1).trans rfl;have hfz76_0:=blk_frozen BK241.out 0;have hfz76_1:=blk_frozen BK241.out 1))
                have n0_:Aside0 (((w71.setCell ⟨gb241,0,none⟩ (.int .i64 ((rd_T38 l1 (ji66)).f0))).setCell ⟨gb241,1,none⟩ (.int .i64 ((rd_T38 l1 (ji66)).f1))).heap[gb219]? = some (.cells #[.int .i64 a0_0,.int .i64 a0_1] 27 (0,0))):=⟨by (with_reducible repeat (first|refine bA ?_ _|refine bB ?_|refine bC ?_ _));refine blk_far ?_ NB219_241.out _;(with_reducible repeat (first|refine bA ?_ _|refine bB ?_|refine bC ?_ _));refine blk_far ?_ NB219_241.out _;(with_reducible repeat (first|refine bA ?_ _|refine bB ?_|refine bC ?_ _));exact BK219.out⟩
                have n1_:Aside0 (((w71.setCell ⟨gb241,0,none⟩ (.int .i64 ((rd_T38 l1 (ji66)).f0))).setCell ⟨gb241,1,none⟩ (.int .i64 ((rd_T38 l1 (ji66)).f1))).heap[gb220]? = some (.cells #[.int .i64 x221000_40,.int .i64 x221001_40] 40 (0,0))):=⟨by (with_reducible repeat (first|refine bA ?_ _|refine bB ?_|refine bC ?_ _));refine blk_far ?_ NB220_241.out _;(with_reducible repeat (first|refine bA ?_ _|refine bB ?_|refine bC ?_ _));refine blk_far ?_ NB220_241.out _;(with_reducible repeat (first|refine bA ?_ _|refine bB ?_|refine bC ?_ _));exact BK220.out⟩
                have n2_:Aside0 (((w71.setCell ⟨gb241,0,none⟩ (.int .i64 ((rd_T38 l1 (ji66)).f0))).setCell ⟨gb241,1,none⟩ (.int .i64 ((rd_T38 l1 (ji66)).f1))).heap[gb234]? = some (.cells #[.int .i64 t231,.int .i64 t232] 40 (0,0))):=⟨by (with_reducible repeat (first|refine bA ?_ _|refine bB ?_|refine bC ?_ _));refine blk_far ?_ NB234_241.out _;(with_reducible repeat (first|refine bA ?_ _|refine bB ?_|refine bC ?_ _));refine blk_far ?_ NB234_241.out _;(with_reducible repeat (first|refine bA ?_ _|refine bB ?_|refine bC ?_ _));exact BK234.out⟩
                have n3_:Aside0 (((w71.setCell ⟨gb241,0,none⟩ (.int .i64 ((rd_T38 l1 (ji66)).f0))).setCell ⟨gb241,1,none⟩ (.int .i64 ((rd_T38 l1 (ji66)).f1))).heap[gb239]? = some (.cells #[.int .i64 (wrap64 (t236 + t231)),.int .i64 (wrap64 (t238 + t232))] 40 (0,0))):=⟨by (with_reducible repeat (first|refine bA ?_ _|refine bB ?_|refine bC ?_ _));refine blk_far ?_ NB239_241.out _;(with_reducible repeat (first|refine bA ?_ _|refine bB ?_|refine bC ?_ _));refine blk_far ?_ NB239_241.out _;(with_reducible repeat (first|refine bA ?_ _|refine bB ?_|refine bC ?_ _));exact BK239.out⟩
                have n4_:Aside0 (((w71.setCell ⟨gb241,0,none⟩ (.int .i64 ((rd_T38 l1 (ji66)).f0))).setCell ⟨gb241,1,none⟩ (.int .i64 ((rd_T38 l1 (ji66)).f1))).heap[gb241]? = some (.cells #[.int .i64 ((rd_T38 l1 (ji66)).f0),.int .i64 ((rd_T38 l1 (ji66)).f1)] 38 (0,0))):=⟨by (with_reducible repeat (first|refine bA ?_ _|refine bB ?_|refine bC ?_ _));refine bH (cs:=#[.int .i64 ((rd_T38 l1 (ji66)).f0),.int .i64 0]) ?_ 1 _ rfl;(with_reducible repeat (first|refine bA ?_ _|refine bB ?_|refine bC ?_ _));refine bH (cs:=#[.int .i64 0,.int .i64 0]) ?_ 0 _ rfl;(with_reducible repeat (first|refine bA ?_ _|refine bB ?_|refine bC ?_ _));exact BK241.out⟩
                have n5_:Aside0 (Below w.heap.size w ((w71.setCell ⟨gb241,0,none⟩ (.int .i64 ((rd_T38 l1 (ji66)).f0))).setCell ⟨gb241,1,none⟩ (.int .i64 ((rd_T38 l1 (ji66)).f1)))):=⟨by repeat (first|(with_reducible first|exact HB.out|apply bE|apply bD|apply bF|refine below_set ?_ GE219.out|refine below_set ?_ GE220.out|refine below_set ?_ GE234.out|refine below_set ?_ GE239.out|refine below_set ?_ GE241.out)|exact HB.out)⟩
                (try clear BK219)
                (try clear BK220)
                (try clear BK234)
                (try clear BK239)
                (try clear BK241)
                (try clear HB)
                generalize ((w71.setCell ⟨gb241,0,none⟩ (.int .i64 ((rd_T38 l1 (ji66)).f0))).setCell ⟨gb241,1,none⟩ (.int .i64 ((rd_T38 l1 (ji66)).f1))) = w77 at n0_ n1_ n2_ n3_ n4_ n5_ ⊢
                have BK219:=n0_
                have BK220:=n1_
                have BK234:=n2_
                have BK239:=n3_
                have BK241:=n4_
                have HB:=n5_
                clear n0_ n1_ n2_ n3_ n4_ n5_
                have n0_:=zM (bB BK219.out)
                have n1_:=zM (bB BK220.out)
                have n2_:=zM (bB BK234.out)
                have n3_:=zM (bB BK239.out)
                have n4_:=zM (bB BK241.out)
                have n5_:=zM (bF HB.out)
                clear BK219
                clear BK220
                clear BK234
                clear BK239
                clear BK241
                clear HB
                have BK219:=n0_
                have BK220:=n1_
                have BK234:=n2_
                have BK239:=n3_
                have BK241:=n4_
                have HB:=n5_
                clear n0_ n1_ n2_ n3_ n4_ n5_
                refine start_ (n:=14) (S:=fun w'=>w'.cell? ⟨gb219,0,none⟩ = some (.int .i64 a0_0) ∧ w'.cell? ⟨gb219,1,none⟩ = some (.int .i64 a0_1) ∧ w'.cell? ⟨gb241,0,none⟩ = some (.int .i64 ((rd_T38 l1 (ji66)).f0)) ∧ w'.cell? ⟨gb241,1,none⟩ = some (.int .i64 ((rd_T38 l1 (ji66)).f1))) (ds:=[]) #[false,false,false,false,false,false,false,false,false,false,false,false,false,false] (by kernel_rfl) rfl rfl ⟨(blk_cell BK219.out 0).trans rfl,(blk_cell BK219.out 1).trans rfl,(blk_cell BK241.out 0).trans rfl,(blk_cell BK241.out 1).trans rfl⟩ (fun hHeld=>?_);refine with_tabW impl_between_60_61_62.tab12 impl_between_60_61_62.bits12 (fun HT_ HW_=>?_)
                generalize w77.drew = w78 at BK219 BK220 BK234 BK239 BK241 HB hHeld ⊢
                refine pure_ (i:=0) (N:=some 109) (v:=?_) (a':=?_) #[true,false,false,false,false,false,false,false,false,false,false,false,false,false] rfl rfl (any_of HT_.out (by kernel_rfl)) (fun _ _ _ h=>h) (Or.inl ⟨by rfl,?_⟩) ?_ ?_
                rotate_left
                ·intro w'
                 go_simp
                 with_reducible rfl
                rotate_left
                ·simp only [Act.put,zS,z0,z1,i64_w,i32_w]
                 rfl
                refine pure_ (i:=2) (N:=some 111) (v:=?_) (a':=?_) #[true,false,true,false,false,false,false,false,false,false,false,false,false,false] rfl rfl (any_of HT_.out (by kernel_rfl)) (fun _ _ _ h=>h) (Or.inl ⟨by rfl,?_⟩) ?_ ?_
                rotate_left
                ·intro w'
                 go_simp
                 with_reducible rfl
                rotate_left
                ·simp only [Act.put,zS,z0,z1,i64_w,i32_w]
                 rfl
                refine pure_ (i:=5) (N:=some 114) (v:=?_) (a':=?_) #[true,false,true,false,false,true,false,false,false,false,false,false,false,false] rfl rfl (any_of HT_.out (by kernel_rfl)) (fun _ _ _ h=>h) (Or.inl ⟨by rfl,?_⟩) ?_ ?_
                rotate_left
                ·intro w'
                 go_simp
                 with_reducible rfl
                rotate_left
                ·simp only [Act.put,zS,z0,z1,i64_w,i32_w]
                 rfl
                refine take_ (i:=1) (N:=some 110) (v:=?_) (a':=?_) #[true,true,true,false,false,true,false,false,false,false,false,false,false,false] rfl rfl (take_ofW HT_.out HW_.out (by kernel_rfl)) (fun _ _ _ h=>h) (Or.inl ⟨by rfl,?_⟩) hHeld ?_ ?_
                rotate_left
                ·rintro w' ⟨s0,s1,s2,s3⟩
                 go_simp
                 with_reducible rfl
                rotate_left
                ·simp only [Act.put,zS,z0,z1,i64_w,i32_w]
                 rfl
                refine take_ (i:=3) (N:=some 112) (v:=?_) (a':=?_) #[true,true,true,true,false,true,false,false,false,false,false,false,false,false] rfl rfl (take_ofW HT_.out HW_.out (by kernel_rfl)) (fun _ _ _ h=>h) (Or.inl ⟨by rfl,?_⟩) hHeld ?_ ?_
                rotate_left
                ·rintro w' ⟨s0,s1,s2,s3⟩
                 go_simp
                 with_reducible rfl
                rotate_left
                ·simp only [Act.put,zS,z0,z1,i64_w,i32_w]
                 rfl
                refine join_ (σ:=Nat) 2 #[true,true,true,true,true,true,true,true,true,true,true,true,false,false] (fun s_=>[(113,.int .i64 t242),(116,.tuple #[.agg #[.int .i64 t243,.int .i64 t244],.bool t245]),(19,.pointer (some ⟨s_,0,none⟩)),(115,.int .i64 (wrap64 (t242 - a2))),(108,.tuple #[.agg #[.int .i64 t243,.int .i64 t244],.bool t245]),(117,.agg #[.int .i64 t243,.int .i64 t244]),(118,.bool t245)]) (fun s_ w'=>(w'.cell? ⟨gb219,0,none⟩ = some (.int .i64 a0_0) ∧ w'.cell? ⟨gb219,1,none⟩ = some (.int .i64 a0_1) ∧ w'.cell? ⟨gb241,0,none⟩ = some (.int .i64 ((rd_T38 l1 (ji66)).f0)) ∧ w'.cell? ⟨gb241,1,none⟩ = some (.int .i64 ((rd_T38 l1 (ji66)).f1))) ∧ (w'.heap[gb219]? = some (.cells #[.int .i64 a0_0,.int .i64 a0_1] 27 (0,0))) ∧ (w'.heap[gb220]? = some (.cells #[.int .i64 x221000_40,.int .i64 x221001_40] 40 (0,0))) ∧ (w'.heap[gb234]? = some (.cells #[.int .i64 t231,.int .i64 t232] 40 (0,0))) ∧ (w'.heap[gb239]? = some (.cells #[.int .i64 (wrap64 (t236 + t231)),.int .i64 (wrap64 (t238 + t232))] 40 (0,0))) ∧ (w'.heap[gb241]? = some (.cells #[.int .i64 ((rd_T38 l1 (ji66)).f0),.int .i64 ((rd_T38 l1 (ji66)).f1)] 38 (0,0))) ∧ (w'.heap[s_]? = some (.cells #[.int .i64 0,.int .i64 0] 40 (0,0))) ∧ (w.heap.size ≤ s_) ∧ (w.heap.size ≤ s_) ∧ (gb219 ≠ s_) ∧ (s_ ≠ gb219) ∧ (gb220 ≠ s_) ∧ (s_ ≠ gb220) ∧ (gb234 ≠ s_) ∧ (s_ ≠ gb234) ∧ (gb239 ≠ s_) ∧ (s_ ≠ gb239) ∧ (gb241 ≠ s_) ∧ (s_ ≠ gb241) ∧ (Below w.heap.size w w')) ?_ ?_
                rotate_left
                ·intro hCont
                 refine two_ (i:=4) (j:=11) (Ni:=some 113) (Nj:=some 19) #[true,true,true,true,true,true,false,false,false,false,false,false,false,false] #[true,true,true,true,false,true,false,false,false,false,false,true,false,false] rfl rfl rfl rfl (two_of HT_.out (by kernel_rfl)) (by decide) (by decide) (fun K hK=>?_) (fun K hK=>?_)
                 ·skip
                  refine goesW_ Try.func60 (by kernel_rfl) rfl #[.agg #[.int .i64 ((rd_T38 l1 (ji66)).f0),.int .i64 ((rd_T38 l1 (ji66)).f1)]] (by rfl) rfl rfl (by (try simp only [List.map_toArray,List.map_cons,List.map_nil]);first|done|(simp only [hji66];rfl)|rfl|(simp only [List.length_drop,List.length_take];rfl)) ?_
                  with_reducible refine (impl_timeOf.calls ((rd_T38 l1 (ji66)).f0) ((rd_T38 l1 (ji66)).f1) t242 _ A68.out).mono ?_
                  rintro e w79 ⟨rfl,hb⟩
                  refine ⟨_,rfl,?_⟩
                  have n0_:=zM (blk_below (g:=gb219) (o:=.cells #[.int .i64 a0_0,.int .i64 a0_1] 27 (0,0)) (by (with_reducible repeat (first|refine bA ?_ _|refine bB ?_|refine bC ?_ _));exact BK219.out) hb)
                  have n1_:=zM (blk_below (g:=gb220) (o:=.cells #[.int .i64 x221000_40,.int .i64 x221001_40] 40 (0,0)) (by (with_reducible repeat (first|refine bA ?_ _|refine bB ?_|refine bC ?_ _));exact BK220.out) hb)
                  have n2_:=zM (blk_below (g:=gb234) (o:=.cells #[.int .i64 t231,.int .i64 t232] 40 (0,0)) (by (with_reducible repeat (first|refine bA ?_ _|refine bB ?_|refine bC ?_ _));exact BK234.out) hb)
                  have n3_:=zM (blk_below (g:=gb239) (o:=.cells #[.int .i64 (wrap64 (t236 + t231)),.int .i64 (wrap64 (t238 + t232))] 40 (0,0)) (by (with_reducible repeat (first|refine bA ?_ _|refine bB ?_|refine bC ?_ _));exact BK239.out) hb)
                  have n4_:=zM (blk_below (g:=gb241) (o:=.cells #[.int .i64 ((rd_T38 l1 (ji66)).f0),.int .i64 ((rd_T38 l1 (ji66)).f1)] 38 (0,0)) (by (with_reducible repeat (first|refine bA ?_ _|refine bB ?_|refine bC ?_ _));exact BK241.out) hb)
                  have n5_:=zM (bG (by repeat (first|(with_reducible first|exact HB.out|apply bE|apply bD|apply bF|refine below_set ?_ GE219.out|refine below_set ?_ GE220.out|refine below_set ?_ GE234.out|refine below_set ?_ GE239.out|refine below_set ?_ GE241.out)|exact HB.out)) hb)
                  clear BK219
                  clear BK220
                  clear BK234
                  clear BK239
                  clear BK241
                  clear HB
                  have BK219:=n0_
                  have BK220:=n1_
                  have BK234:=n2_
                  have BK239:=n3_
                  have BK241:=n4_
                  have HB:=n5_
                  clear n0_ n1_ n2_ n3_ n4_ n5_
                  (try clear hb)
                  (try clear hb2)
                  (try clear hk)
                  (try clear hi)
                  refine hK.out _ _ ⟨(blk_cell BK219.out 0).trans rfl,(blk_cell BK219.out 1).trans rfl,(blk_cell BK241.out 0).trans rfl,(blk_cell BK241.out 1).trans rfl⟩ (fun hHeld=>?_)
                  clear hK K
                  refine norm_ (a':=?_) ?_ ?_
                  rotate_left
                  ·show Act.put _ (some 113) _ = _
                   simp only [Act.put,zS,z0,z1,i64_w,i32_w]
                   rfl
                  refine pure_ (i:=6) (N:=some 115) (v:=?_) (a':=?_) #[true,true,true,true,true,true,true,false,false,false,false,false,false,false] rfl rfl (any_of HT_.out (by kernel_rfl)) (fun _ _ _ h=>h) (Or.inl ⟨by rfl,?_⟩) ?_ ?_
                  rotate_left
                  ·intro w'
                   go_simp
                   with_reducible rfl
                  rotate_left
                  ·simp only [Act.put,zS,z0,z1,i64_w,i32_w]
                   rfl
                  refine two_ (i:=7) (j:=11) (Ni:=some 116) (Nj:=some 19) #[true,true,true,true,true,true,true,true,false,false,false,false,false,false] #[true,true,true,true,true,true,true,false,false,false,false,true,false,false] rfl rfl rfl rfl (two_of HT_.out (by kernel_rfl)) (by decide) (by decide) (fun K hK=>?_) (fun K hK=>?_)
                  ·skip
                   refine goesW_ Try.func62 (by kernel_rfl) rfl #[.agg #[.int .i64 a0_0,.int .i64 a0_1],.int .i64 (wrap64 (t242 - a2))] (by rfl) rfl rfl (by (try simp only [List.map_toArray,List.map_cons,List.map_nil]);first|done|rfl) ?_
                   with_reducible refine (impl_counts.calls a0_0 a0_1 (wrap64 (t242 - a2)) t243 t244 t245 _ A69.out).mono ?_
                   rintro e w80 ⟨rfl,hb⟩
                   refine ⟨_,rfl,?_⟩
                   have n0_:=zM (blk_below (g:=gb219) (o:=.cells #[.int .i64 a0_0,.int .i64 a0_1] 27 (0,0)) (by (with_reducible repeat (first|refine bA ?_ _|refine bB ?_|refine bC ?_ _));exact BK219.out) hb)
                   have n1_:=zM (blk_below (g:=gb220) (o:=.cells #[.int .i64 x221000_40,.int .i64 x221001_40] 40 (0,0)) (by (with_reducible repeat (first|refine bA ?_ _|refine bB ?_|refine bC ?_ _));exact BK220.out) hb)
                   have n2_:=zM (blk_below (g:=gb234) (o:=.cells #[.int .i64 t231,.int .i64 t232] 40 (0,0)) (by (with_reducible repeat (first|refine bA ?_ _|refine bB ?_|refine bC ?_ _));exact BK234.out) hb)
                   have n3_:=zM (blk_below (g:=gb239) (o:=.cells #[.int .i64 (wrap64 (t236 + t231)),.int .i64 (wrap64 (t238 + t232))] 40 (0,0)) (by (with_reducible repeat (first|refine bA ?_ _|refine bB ?_|refine bC ?_ _));exact BK239.out) hb)
                   have n4_:=zM (blk_below (g:=gb241) (o:=.cells #[.int .i64 ((rd_T38 l1 (ji66)).f0),.int .i64 ((rd_T38 l1 (ji66)).f1)] 38 (0,0)) (by (with_reducible repeat (first|refine bA ?_ _|refine bB ?_|refine bC ?_ _));exact BK241.out) hb)
                   have n5_:=zM (bG (by repeat (first|(with_reducible first|exact HB.out|apply bE|apply bD|apply bF|refine below_set ?_ GE219.out|refine below_set ?_ GE220.out|refine below_set ?_ GE234.out|refine below_set ?_ GE239.out|refine below_set ?_ GE241.out)|exact HB.out)) hb)
                   clear BK219
                   clear BK220
                   clear BK234
                   clear BK239
                   clear BK241
                   clear HB
                   have BK219:=n0_
                   have BK220:=n1_
                   have BK234:=n2_
                   have BK239:=n3_
                   have BK241:=n4_
                   have HB:=n5_
                   clear n0_ n1_ n2_ n3_ n4_ n5_
                   (try clear hb)
                   (try clear hb2)
                   (try clear hk)
                   (try clear hi)
                   refine hK.out _ _ ⟨(blk_cell BK219.out 0).trans rfl,(blk_cell BK219.out 1).trans rfl,(blk_cell BK241.out 0).trans rfl,(blk_cell BK241.out 1).trans rfl⟩ (fun hHeld=>?_)
                   clear hK K
                   refine norm_ (a':=?_) ?_ ?_
                   rotate_left
                   ·show Act.put _ (some 116) _ = _
                    simp only [Act.put,zS,z0,z1,i64_w,i32_w]
                    rfl
                   refine pure_ (i:=8) (N:=some 108) (v:=?_) (a':=?_) #[true,true,true,true,true,true,true,true,true,false,false,false,false,false] rfl rfl (any_of HT_.out (by kernel_rfl)) (fun _ _ _ h=>h) (Or.inl ⟨by rfl,?_⟩) ?_ ?_
                   rotate_left
                   ·intro w'
                    go_simp
                    with_reducible rfl
                   rotate_left
                   ·simp only [Act.put,zS,z0,z1,i64_w,i32_w]
                    rfl
                   refine pure_ (i:=9) (N:=some 117) (v:=?_) (a':=?_) #[true,true,true,true,true,true,true,true,true,true,false,false,false,false] rfl rfl (any_of HT_.out (by kernel_rfl)) (fun _ _ _ h=>h) (Or.inl ⟨by rfl,?_⟩) ?_ ?_
                   rotate_left
                   ·intro w'
                    go_simp
                    with_reducible rfl
                   rotate_left
                   ·simp only [Act.put,zS,z0,z1,i64_w,i32_w]
                    rfl
                   refine pure_ (i:=10) (N:=some 118) (v:=?_) (a':=?_) #[true,true,true,true,true,true,true,true,true,true,true,false,false,false] rfl rfl (any_of HT_.out (by kernel_rfl)) (fun _ _ _ h=>h) (Or.inl ⟨by rfl,?_⟩) ?_ ?_
                   rotate_left
                   ·intro w'
                    go_simp
                    with_reducible rfl
                   rotate_left
                   ·simp only [Act.put,zS,z0,z1,i64_w,i32_w]
                    rfl
                   refine one_ (i:=11) (N:=some 19) #[true,true,true,true,true,true,true,true,true,true,true,true,false,false] rfl rfl (one_of HT_.out (by kernel_rfl)) (by decide) (fun K hK=>?_)
                   refine box_step ?hg (N:=19) ?hd (cs:=#[.int .i64 0,.int .i64 0]) (t:=40) ?hr ?_;(case hd=>rfl);(case hg=>rfl);(case hr=>first|(go_simp;done)|(go_simp;rfl))
                   intro gb246 hg w81 hbox hb
                   have n0_:=zM (blk_below (g:=gb219) (o:=.cells #[.int .i64 a0_0,.int .i64 a0_1] 27 (0,0)) (by (with_reducible repeat (first|refine bA ?_ _|refine bB ?_|refine bC ?_ _));exact BK219.out) hb)
                   have n1_:=zM (blk_below (g:=gb220) (o:=.cells #[.int .i64 x221000_40,.int .i64 x221001_40] 40 (0,0)) (by (with_reducible repeat (first|refine bA ?_ _|refine bB ?_|refine bC ?_ _));exact BK220.out) hb)
                   have n2_:=zM (blk_below (g:=gb234) (o:=.cells #[.int .i64 t231,.int .i64 t232] 40 (0,0)) (by (with_reducible repeat (first|refine bA ?_ _|refine bB ?_|refine bC ?_ _));exact BK234.out) hb)
                   have n3_:=zM (blk_below (g:=gb239) (o:=.cells #[.int .i64 (wrap64 (t236 + t231)),.int .i64 (wrap64 (t238 + t232))] 40 (0,0)) (by (with_reducible repeat (first|refine bA ?_ _|refine bB ?_|refine bC ?_ _));exact BK239.out) hb)
                   have n4_:=zM (blk_below (g:=gb241) (o:=.cells #[.int .i64 ((rd_T38 l1 (ji66)).f0),.int .i64 ((rd_T38 l1 (ji66)).f1)] 38 (0,0)) (by (with_reducible repeat (first|refine bA ?_ _|refine bB ?_|refine bC ?_ _));exact BK241.out) hb)
                   have n5_:=zM (bG (by repeat (first|(with_reducible first|exact HB.out|apply bE|apply bD|apply bF|refine below_set ?_ GE219.out|refine below_set ?_ GE220.out|refine below_set ?_ GE234.out|refine below_set ?_ GE239.out|refine below_set ?_ GE241.out)|exact HB.out)) hb)
                   have n6_:=zM (hbox)
                   have n7_:=zM ((by rw [hg];exact (below_size (by repeat (first|(with_reducible first|exact HB.out|apply bE|apply bD|apply bF|refine below_set ?_ GE219.out|refine below_set ?_ GE220.out|refine below_set ?_ GE234.out|refine below_set ?_ GE239.out|refine below_set ?_ GE241.out)|exact HB.out))):w.heap.size ≤ gb246))
                   have n8_:=zM ((by rw [hg];exact (below_size (by repeat (first|(with_reducible first|exact HB.out|apply bE|apply bD|apply bF|refine below_set ?_ GE219.out|refine below_set ?_ GE220.out|refine below_set ?_ GE234.out|refine below_set ?_ GE239.out|refine below_set ?_ GE241.out)|exact HB.out))):w.heap.size ≤ gb246))
                   have n9_:=zM ((by rw [hg];exact Nat.ne_of_lt (blk_lt (g:=gb219) (o:=.cells #[.int .i64 a0_0,.int .i64 a0_1] 27 (0,0)) (by (with_reducible repeat (first|refine bA ?_ _|refine bB ?_|refine bC ?_ _));exact BK219.out)):gb219 ≠ gb246))
                   have n10_:=zM ((by rw [hg];exact Nat.ne_of_gt (blk_lt (g:=gb219) (o:=.cells #[.int .i64 a0_0,.int .i64 a0_1] 27 (0,0)) (by (with_reducible repeat (first|refine bA ?_ _|refine bB ?_|refine bC ?_ _));exact BK219.out)):gb246 ≠ gb219))
                   have n11_:=zM ((by rw [hg];exact Nat.ne_of_lt (blk_lt (g:=gb220) (o:=.cells #[.int .i64 x221000_40,.int .i64 x221001_40] 40 (0,0)) (by (with_reducible repeat (first|refine bA ?_ _|refine bB ?_|refine bC ?_ _));exact BK220.out)):gb220 ≠ gb246))
                   have n12_:=zM ((by rw [hg];exact Nat.ne_of_gt (blk_lt (g:=gb220) (o:=.cells #[.int .i64 x221000_40,.int .i64 x221001_40] 40 (0,0)) (by (with_reducible repeat (first|refine bA ?_ _|refine bB ?_|refine bC ?_ _));exact BK220.out)):gb246 ≠ gb220))
                   have n13_:=zM ((by rw [hg];exact Nat.ne_of_lt (blk_lt (g:=gb234) (o:=.cells #[.int .i64 t231,.int .i64 t232] 40 (0,0)) (by (with_reducible repeat (first|refine bA ?_ _|refine bB ?_|refine bC ?_ _));exact BK234.out)):gb234 ≠ gb246))
                   have n14_:=zM ((by rw [hg];exact Nat.ne_of_gt (blk_lt (g:=gb234) (o:=.cells #[.int .i64 t231,.int .i64 t232] 40 (0,0)) (by (with_reducible repeat (first|refine bA ?_ _|refine bB ?_|refine bC ?_ _));exact BK234.out)):gb246 ≠ gb234))
                   have n15_:=zM ((by rw [hg];exact Nat.ne_of_lt (blk_lt (g:=gb239) (o:=.cells #[.int .i64 (wrap64 (t236 + t231)),.int .i64 (wrap64 (t238 + t232))] 40 (0,0)) (by (with_reducible repeat (first|refine bA ?_ _|refine bB ?_|refine bC ?_ _));exact BK239.out)):gb239 ≠ gb246))
                   have n16_:=zM ((by rw [hg];exact Nat.ne_of_gt (blk_lt (g:=gb239) (o:=.cells #[.int .i64 (wrap64 (t236 + t231)),.int .i64 (wrap64 (t238 + t232))] 40 (0,0)) (by (with_reducible repeat (first|refine bA ?_ _|refine bB ?_|refine bC ?_ _));exact BK239.out)):gb246 ≠ gb239))
                   have n17_:=zM ((by rw [hg];exact Nat.ne_of_lt (blk_lt (g:=gb241) (o:=.cells #[.int .i64 ((rd_T38 l1 (ji66)).f0),.int .i64 ((rd_T38 l1 (ji66)).f1)] 38 (0,0)) (by (with_reducible repeat (first|refine bA ?_ _|refine bB ?_|refine bC ?_ _));exact BK241.out)):gb241 ≠ gb246))
                   have n18_:=zM ((by rw [hg];exact Nat.ne_of_gt (blk_lt (g:=gb241) (o:=.cells #[.int .i64 ((rd_T38 l1 (ji66)).f0),.int .i64 ((rd_T38 l1 (ji66)).f1)] 38 (0,0)) (by (with_reducible repeat (first|refine bA ?_ _|refine bB ?_|refine bC ?_ _));exact BK241.out)):gb246 ≠ gb241))
                   clear BK219
                   clear BK220
                   clear BK234
                   clear BK239
                   clear BK241
                   clear HB
                   have BK219:=n0_
                   have BK220:=n1_
                   have BK234:=n2_
                   have BK239:=n3_
                   have BK241:=n4_
                   have HB:=n5_
                   have BK246:=n6_
                   have GW246:=n7_
                   have GE246:=n8_
                   have NB219_246:=n9_
                   have NB246_219:=n10_
                   have NB220_246:=n11_
                   have NB246_220:=n12_
                   have NB234_246:=n13_
                   have NB246_234:=n14_
                   have NB239_246:=n15_
                   have NB246_239:=n16_
                   have NB241_246:=n17_
                   have NB246_241:=n18_
                   clear n0_ n1_ n2_ n3_ n4_ n5_ n6_ n7_ n8_ n9_ n10_ n11_ n12_ n13_ n14_ n15_ n16_ n17_ n18_
                   clear hb hbox hg
                   refine hK.out _ _ ⟨(blk_cell BK219.out 0).trans rfl,(blk_cell BK219.out 1).trans rfl,(blk_cell BK241.out 0).trans rfl,(blk_cell BK241.out 1).trans rfl⟩ (fun hHeld=>?_)
                   clear hK K
                   refine norm_ (a':=?_) ?_ ?_
                   rotate_left
                   ·show Act.put _ (some 19) _ = _
                    simp only [Act.put,zS,z0,z1,i64_w,i32_w]
                    rfl
                   exact norm_ (by simp only [putAll,Act.put,zS,z0,z1]) (hCont (gb246) _ ⟨hHeld,(by (with_reducible repeat (first|refine bA ?_ _|refine bB ?_|refine bC ?_ _));exact BK219.out),(by (with_reducible repeat (first|refine bA ?_ _|refine bB ?_|refine bC ?_ _));exact BK220.out),(by (with_reducible repeat (first|refine bA ?_ _|refine bB ?_|refine bC ?_ _));exact BK234.out),(by (with_reducible repeat (first|refine bA ?_ _|refine bB ?_|refine bC ?_ _));exact BK239.out),(by (with_reducible repeat (first|refine bA ?_ _|refine bB ?_|refine bC ?_ _));exact BK241.out),(by (with_reducible repeat (first|refine bA ?_ _|refine bB ?_|refine bC ?_ _));exact BK246.out),GW246.out,GE246.out,NB219_246.out,NB246_219.out,NB220_246.out,NB246_220.out,NB234_246.out,NB246_234.out,NB239_246.out,NB246_239.out,NB241_246.out,NB246_241.out,(by repeat (first|(with_reducible first|exact HB.out|apply bE|apply bD|apply bF|refine below_set ?_ GE219.out|refine below_set ?_ GE220.out|refine below_set ?_ GE234.out|refine below_set ?_ GE239.out|refine below_set ?_ GE241.out|refine below_set ?_ GE246.out)|exact HB.out))⟩)
                  ·skip
                   refine box_step ?hg (N:=19) ?hd (cs:=#[.int .i64 0,.int .i64 0]) (t:=40) ?hr ?_;(case hd=>rfl);(case hg=>rfl);(case hr=>first|(go_simp;done)|(go_simp;rfl))
                   intro gb246 hg w80 hbox hb
                   have n0_:=zM (blk_below (g:=gb219) (o:=.cells #[.int .i64 a0_0,.int .i64 a0_1] 27 (0,0)) (by (with_reducible repeat (first|refine bA ?_ _|refine bB ?_|refine bC ?_ _));exact BK219.out) hb)
                   have n1_:=zM (blk_below (g:=gb220) (o:=.cells #[.int .i64 x221000_40,.int .i64 x221001_40] 40 (0,0)) (by (with_reducible repeat (first|refine bA ?_ _|refine bB ?_|refine bC ?_ _));exact BK220.out) hb)
                   have n2_:=zM (blk_below (g:=gb234) (o:=.cells #[.int .i64 t231,.int .i64 t232] 40 (0,0)) (by (with_reducible repeat (first|refine bA ?_ _|refine bB ?_|refine bC ?_ _));exact BK234.out) hb)
                   have n3_:=zM (blk_below (g:=gb239) (o:=.cells #[.int .i64 (wrap64 (t236 + t231)),.int .i64 (wrap64 (t238 + t232))] 40 (0,0)) (by (with_reducible repeat (first|refine bA ?_ _|refine bB ?_|refine bC ?_ _));exact BK239.out) hb)
                   have n4_:=zM (blk_below (g:=gb241) (o:=.cells #[.int .i64 ((rd_T38 l1 (ji66)).f0),.int .i64 ((rd_T38 l1 (ji66)).f1)] 38 (0,0)) (by (with_reducible repeat (first|refine bA ?_ _|refine bB ?_|refine bC ?_ _));exact BK241.out) hb)
                   have n5_:=zM (bG (by repeat (first|(with_reducible first|exact HB.out|apply bE|apply bD|apply bF|refine below_set ?_ GE219.out|refine below_set ?_ GE220.out|refine below_set ?_ GE234.out|refine below_set ?_ GE239.out|refine below_set ?_ GE241.out)|exact HB.out)) hb)
                   have n6_:=zM (hbox)
                   have n7_:=zM ((by rw [hg];exact (below_size (by repeat (first|(with_reducible first|exact HB.out|apply bE|apply bD|apply bF|refine below_set ?_ GE219.out|refine below_set ?_ GE220.out|refine below_set ?_ GE234.out|refine below_set ?_ GE239.out|refine below_set ?_ GE241.out)|exact HB.out))):w.heap.size ≤ gb246))
                   have n8_:=zM ((by rw [hg];exact (below_size (by repeat (first|(with_reducible first|exact HB.out|apply bE|apply bD|apply bF|refine below_set ?_ GE219.out|refine below_set ?_ GE220.out|refine below_set ?_ GE234.out|refine below_set ?_ GE239.out|refine below_set ?_ GE241.out)|exact HB.out))):w.heap.size ≤ gb246))
                   have n9_:=zM ((by rw [hg];exact Nat.ne_of_lt (blk_lt (g:=gb219) (o:=.cells #[.int .i64 a0_0,.int .i64 a0_1] 27 (0,0)) (by (with_reducible repeat (first|refine bA ?_ _|refine bB ?_|refine bC ?_ _));exact BK219.out)):gb219 ≠ gb246))
                   have n10_:=zM ((by rw [hg];exact Nat.ne_of_gt (blk_lt (g:=gb219) (o:=.cells #[.int .i64 a0_0,.int .i64 a0_1] 27 (0,0)) (by (with_reducible repeat (first|refine bA ?_ _|refine bB ?_|refine bC ?_ _));exact BK219.out)):gb246 ≠ gb219))
                   have n11_:=zM ((by rw [hg];exact Nat.ne_of_lt (blk_lt (g:=gb220) (o:=.cells #[.int .i64 x221000_40,.int .i64 x221001_40] 40 (0,0)) (by (with_reducible repeat (first|refine bA ?_ _|refine bB ?_|refine bC ?_ _));exact BK220.out)):gb220 ≠ gb246))
                   have n12_:=zM ((by rw [hg];exact Nat.ne_of_gt (blk_lt (g:=gb220) (o:=.cells #[.int .i64 x221000_40,.int .i64 x221001_40] 40 (0,0)) (by (with_reducible repeat (first|refine bA ?_ _|refine bB ?_|refine bC ?_ _));exact BK220.out)):gb246 ≠ gb220))
                   have n13_:=zM ((by rw [hg];exact Nat.ne_of_lt (blk_lt (g:=gb234) (o:=.cells #[.int .i64 t231,.int .i64 t232] 40 (0,0)) (by (with_reducible repeat (first|refine bA ?_ _|refine bB ?_|refine bC ?_ _));exact BK234.out)):gb234 ≠ gb246))
                   have n14_:=zM ((by rw [hg];exact Nat.ne_of_gt (blk_lt (g:=gb234) (o:=.cells #[.int .i64 t231,.int .i64 t232] 40 (0,0)) (by (with_reducible repeat (first|refine bA ?_ _|refine bB ?_|refine bC ?_ _));exact BK234.out)):gb246 ≠ gb234))
                   have n15_:=zM ((by rw [hg];exact Nat.ne_of_lt (blk_lt (g:=gb239) (o:=.cells #[.int .i64 (wrap64 (t236 + t231)),.int .i64 (wrap64 (t238 + t232))] 40 (0,0)) (by (with_reducible repeat (first|refine bA ?_ _|refine bB ?_|refine bC ?_ _));exact BK239.out)):gb239 ≠ gb246))
                   have n16_:=zM ((by rw [hg];exact Nat.ne_of_gt (blk_lt (g:=gb239) (o:=.cells #[.int .i64 (wrap64 (t236 + t231)),.int .i64 (wrap64 (t238 + t232))] 40 (0,0)) (by (with_reducible repeat (first|refine bA ?_ _|refine bB ?_|refine bC ?_ _));exact BK239.out)):gb246 ≠ gb239))
                   have n17_:=zM ((by rw [hg];exact Nat.ne_of_lt (blk_lt (g:=gb241) (o:=.cells #[.int .i64 ((rd_T38 l1 (ji66)).f0),.int .i64 ((rd_T38 l1 (ji66)).f1)] 38 (0,0)) (by (with_reducible repeat (first|refine bA ?_ _|refine bB ?_|refine bC ?_ _));exact BK241.out)):gb241 ≠ gb246))
                   have n18_:=zM ((by rw [hg];exact Nat.ne_of_gt (blk_lt (g:=gb241) (o:=.cells #[.int .i64 ((rd_T38 l1 (ji66)).f0),.int .i64 ((rd_T38 l1 (ji66)).f1)] 38 (0,0)) (by (with_reducible repeat (first|refine bA ?_ _|refine bB ?_|refine bC ?_ _));exact BK241.out)):gb246 ≠ gb241))
                   clear BK219
                   clear BK220
                   clear BK234
                   clear BK239
                   clear BK241
                   clear HB
                   have BK219:=n0_
                   have BK220:=n1_
                   have BK234:=n2_
                   have BK239:=n3_
                   have BK241:=n4_
                   have HB:=n5_
                   have BK246:=n6_
                   have GW246:=n7_
                   have GE246:=n8_
                   have NB219_246:=n9_
                   have NB246_219:=n10_
                   have NB220_246:=n11_
                   have NB246_220:=n12_
                   have NB234_246:=n13_
                   have NB246_234:=n14_
                   have NB239_246:=n15_
                   have NB246_239:=n16_
                   have NB241_246:=n17_
                   have NB246_241:=n18_
                   clear n0_ n1_ n2_ n3_ n4_ n5_ n6_ n7_ n8_ n9_ n10_ n11_ n12_ n13_ n14_ n15_ n16_ n17_ n18_
                   clear hb hbox hg
                   refine hK.out _ _ ⟨(blk_cell BK219.out 0).trans rfl,(blk_cell BK219.out 1).trans rfl,(blk_cell BK241.out 0).trans rfl,(blk_cell BK241.out 1).trans rfl⟩ (fun hHeld=>?_)
                   clear hK K
                   refine norm_ (a':=?_) ?_ ?_
                   rotate_left
                   ·show Act.put _ (some 19) _ = _
                    simp only [Act.put,zS,z0,z1,i64_w,i32_w]
                    rfl
                   refine one_ (i:=7) (N:=some 116) #[true,true,true,true,true,true,true,true,false,false,false,true,false,false] rfl rfl (one_of HT_.out (by kernel_rfl)) (by decide) (fun K hK=>?_)
                   refine goesW_ Try.func62 (by kernel_rfl) rfl #[.agg #[.int .i64 a0_0,.int .i64 a0_1],.int .i64 (wrap64 (t242 - a2))] (by rfl) rfl rfl (by (try simp only [List.map_toArray,List.map_cons,List.map_nil]);first|done|rfl) ?_
                   with_reducible refine (impl_counts.calls a0_0 a0_1 (wrap64 (t242 - a2)) t243 t244 t245 _ A69.out).mono ?_
                   rintro e w81 ⟨rfl,hb⟩
                   refine ⟨_,rfl,?_⟩
                   have n0_:=zM (blk_below (g:=gb219) (o:=.cells #[.int .i64 a0_0,.int .i64 a0_1] 27 (0,0)) (by (with_reducible repeat (first|refine bA ?_ _|refine bB ?_|refine bC ?_ _));exact BK219.out) hb)
                   have n1_:=zM (blk_below (g:=gb220) (o:=.cells #[.int .i64 x221000_40,.int .i64 x221001_40] 40 (0,0)) (by (with_reducible repeat (first|refine bA ?_ _|refine bB ?_|refine bC ?_ _));exact BK220.out) hb)
                   have n2_:=zM (blk_below (g:=gb234) (o:=.cells #[.int .i64 t231,.int .i64 t232] 40 (0,0)) (by (with_reducible repeat (first|refine bA ?_ _|refine bB ?_|refine bC ?_ _));exact BK234.out) hb)
                   have n3_:=zM (blk_below (g:=gb239) (o:=.cells #[.int .i64 (wrap64 (t236 + t231)),.int .i64 (wrap64 (t238 + t232))] 40 (0,0)) (by (with_reducible repeat (first|refine bA ?_ _|refine bB ?_|refine bC ?_ _));exact BK239.out) hb)
                   have n4_:=zM (blk_below (g:=gb241) (o:=.cells #[.int .i64 ((rd_T38 l1 (ji66)).f0),.int .i64 ((rd_T38 l1 (ji66)).f1)] 38 (0,0)) (by (with_reducible repeat (first|refine bA ?_ _|refine bB ?_|refine bC ?_ _));exact BK241.out) hb)
                   have n5_:=zM (blk_below (g:=gb246) (o:=.cells #[.int .i64 0,.int .i64 0] 40 (0,0)) (by (with_reducible repeat (first|refine bA ?_ _|refine bB ?_|refine bC ?_ _));exact BK246.out) hb)
                   have n6_:=zM (bG (by repeat (first|(with_reducible first|exact HB.out|apply bE|apply bD|apply bF|refine below_set ?_ GE219.out|refine below_set ?_ GE220.out|refine below_set ?_ GE234.out|refine below_set ?_ GE239.out|refine below_set ?_ GE241.out|refine below_set ?_ GE246.out)|exact HB.out)) hb)
                   clear BK219
                   clear BK220
                   clear BK234
                   clear BK239
                   clear BK241
                   clear BK246
                   clear HB
                   have BK219:=n0_
                   have BK220:=n1_
                   have BK234:=n2_
                   have BK239:=n3_
                   have BK241:=n4_
                   have BK246:=n5_
                   have HB:=n6_
                   clear n0_ n1_ n2_ n3_ n4_ n5_ n6_
                   (try clear hb)
                   (try clear hb2)
                   (try clear hk)
                   (try clear hi)
                   refine hK.out _ _ ⟨(blk_cell BK219.out 0).trans rfl,(blk_cell BK219.out 1).trans rfl,(blk_cell BK241.out 0).trans rfl,(blk_cell BK241.out 1).trans rfl⟩ (fun hHeld=>?_)
                   clear hK K
                   refine norm_ (a':=?_) ?_ ?_
                   rotate_left
                   ·show Act.put _ (some 116) _ = _
                    simp only [Act.put,zS,z0,z1,i64_w,i32_w]
                    rfl
                   refine pure_ (i:=8) (N:=some 108) (v:=?_) (a':=?_) #[true,true,true,true,true,true,true,true,true,false,false,true,false,false] rfl rfl (any_of HT_.out (by kernel_rfl)) (fun _ _ _ h=>h) (Or.inl ⟨by rfl,?_⟩) ?_ ?_
                   rotate_left
                   ·intro w'
                    go_simp
                    with_reducible rfl
                   rotate_left
                   ·simp only [Act.put,zS,z0,z1,i64_w,i32_w]
                    rfl
                   refine pure_ (i:=9) (N:=some 117) (v:=?_) (a':=?_) #[true,true,true,true,true,true,true,true,true,true,false,true,false,false] rfl rfl (any_of HT_.out (by kernel_rfl)) (fun _ _ _ h=>h) (Or.inl ⟨by rfl,?_⟩) ?_ ?_
                   rotate_left
                   ·intro w'
                    go_simp
                    with_reducible rfl
                   rotate_left
                   ·simp only [Act.put,zS,z0,z1,i64_w,i32_w]
                    rfl
                   refine pure_ (i:=10) (N:=some 118) (v:=?_) (a':=?_) #[true,true,true,true,true,true,true,true,true,true,true,true,false,false] rfl rfl (any_of HT_.out (by kernel_rfl)) (fun _ _ _ h=>h) (Or.inl ⟨by rfl,?_⟩) ?_ ?_
                   rotate_left
                   ·intro w'
                    go_simp
                    with_reducible rfl
                   rotate_left
                   ·simp only [Act.put,zS,z0,z1,i64_w,i32_w]
                    rfl
                   exact norm_ (by simp only [putAll,Act.put,zS,z0,z1]) (hCont (gb246) _ ⟨hHeld,(by (with_reducible repeat (first|refine bA ?_ _|refine bB ?_|refine bC ?_ _));exact BK219.out),(by (with_reducible repeat (first|refine bA ?_ _|refine bB ?_|refine bC ?_ _));exact BK220.out),(by (with_reducible repeat (first|refine bA ?_ _|refine bB ?_|refine bC ?_ _));exact BK234.out),(by (with_reducible repeat (first|refine bA ?_ _|refine bB ?_|refine bC ?_ _));exact BK239.out),(by (with_reducible repeat (first|refine bA ?_ _|refine bB ?_|refine bC ?_ _));exact BK241.out),(by (with_reducible repeat (first|refine bA ?_ _|refine bB ?_|refine bC ?_ _));exact BK246.out),GW246.out,GE246.out,NB219_246.out,NB246_219.out,NB220_246.out,NB246_220.out,NB234_246.out,NB246_234.out,NB239_246.out,NB246_239.out,NB241_246.out,NB246_241.out,(by repeat (first|(with_reducible first|exact HB.out|apply bE|apply bD|apply bF|refine below_set ?_ GE219.out|refine below_set ?_ GE220.out|refine below_set ?_ GE234.out|refine below_set ?_ GE239.out|refine below_set ?_ GE241.out|refine below_set ?_ GE246.out)|exact HB.out))⟩)
                 ·skip
                  refine box_step ?hg (N:=19) ?hd (cs:=#[.int .i64 0,.int .i64 0]) (t:=40) ?hr ?_;(case hd=>rfl);(case hg=>rfl);(case hr=>first|(go_simp;done)|(go_simp;rfl))
                  intro gb246 hg w79 hbox hb
                  have n0_:=zM (blk_below (g:=gb219) (o:=.cells #[.int .i64 a0_0,.int .i64 a0_1] 27 (0,0)) (by (with_reducible repeat (first|refine bA ?_ _|refine bB ?_|refine bC ?_ _));exact BK219.out) hb)
                  have n1_:=zM (blk_below (g:=gb220) (o:=.cells #[.int .i64 x221000_40,.int .i64 x221001_40] 40 (0,0)) (by (with_reducible repeat (first|refine bA ?_ _|refine bB ?_|refine bC ?_ _));exact BK220.out) hb)
                  have n2_:=zM (blk_below (g:=gb234) (o:=.cells #[.int .i64 t231,.int .i64 t232] 40 (0,0)) (by (with_reducible repeat (first|refine bA ?_ _|refine bB ?_|refine bC ?_ _));exact BK234.out) hb)
                  have n3_:=zM (blk_below (g:=gb239) (o:=.cells #[.int .i64 (wrap64 (t236 + t231)),.int .i64 (wrap64 (t238 + t232))] 40 (0,0)) (by (with_reducible repeat (first|refine bA ?_ _|refine bB ?_|refine bC ?_ _));exact BK239.out) hb)
                  have n4_:=zM (blk_below (g:=gb241) (o:=.cells #[.int .i64 ((rd_T38 l1 (ji66)).f0),.int .i64 ((rd_T38 l1 (ji66)).f1)] 38 (0,0)) (by (with_reducible repeat (first|refine bA ?_ _|refine bB ?_|refine bC ?_ _));exact BK241.out) hb)
                  have n5_:=zM (bG (by repeat (first|(with_reducible first|exact HB.out|apply bE|apply bD|apply bF|refine below_set ?_ GE219.out|refine below_set ?_ GE220.out|refine below_set ?_ GE234.out|refine below_set ?_ GE239.out|refine below_set ?_ GE241.out)|exact HB.out)) hb)
                  have n6_:=zM (hbox)
                  have n7_:=zM ((by rw [hg];exact (below_size (by repeat (first|(with_reducible first|exact HB.out|apply bE|apply bD|apply bF|refine below_set ?_ GE219.out|refine below_set ?_ GE220.out|refine below_set ?_ GE234.out|refine below_set ?_ GE239.out|refine below_set ?_ GE241.out)|exact HB.out))):w.heap.size ≤ gb246))
                  have n8_:=zM ((by rw [hg];exact (below_size (by repeat (first|(with_reducible first|exact HB.out|apply bE|apply bD|apply bF|refine below_set ?_ GE219.out|refine below_set ?_ GE220.out|refine below_set ?_ GE234.out|refine below_set ?_ GE239.out|refine below_set ?_ GE241.out)|exact HB.out))):w.heap.size ≤ gb246))
                  have n9_:=zM ((by rw [hg];exact Nat.ne_of_lt (blk_lt (g:=gb219) (o:=.cells #[.int .i64 a0_0,.int .i64 a0_1] 27 (0,0)) (by (with_reducible repeat (first|refine bA ?_ _|refine bB ?_|refine bC ?_ _));exact BK219.out)):gb219 ≠ gb246))
                  have n10_:=zM ((by rw [hg];exact Nat.ne_of_gt (blk_lt (g:=gb219) (o:=.cells #[.int .i64 a0_0,.int .i64 a0_1] 27 (0,0)) (by (with_reducible repeat (first|refine bA ?_ _|refine bB ?_|refine bC ?_ _));exact BK219.out)):gb246 ≠ gb219))
                  have n11_:=zM ((by rw [hg];exact Nat.ne_of_lt (blk_lt (g:=gb220) (o:=.cells #[.int .i64 x221000_40,.int .i64 x221001_40] 40 (0,0)) (by (with_reducible repeat (first|refine bA ?_ _|refine bB ?_|refine bC ?_ _));exact BK220.out)):gb220 ≠ gb246))
                  have n12_:=zM ((by rw [hg];exact Nat.ne_of_gt (blk_lt (g:=gb220) (o:=.cells #[.int .i64 x221000_40,.int .i64 x221001_40] 40 (0,0)) (by (with_reducible repeat (first|refine bA ?_ _|refine bB ?_|refine bC ?_ _));exact BK220.out)):gb246 ≠ gb220))
                  have n13_:=zM ((by rw [hg];exact Nat.ne_of_lt (blk_lt (g:=gb234) (o:=.cells #[.int .i64 t231,.int .i64 t232] 40 (0,0)) (by (with_reducible repeat (first|refine bA ?_ _|refine bB ?_|refine bC ?_ _));exact BK234.out)):gb234 ≠ gb246))
                  have n14_:=zM ((by rw [hg];exact Nat.ne_of_gt (blk_lt (g:=gb234) (o:=.cells #[.int .i64 t231,.int .i64 t232] 40 (0,0)) (by (with_reducible repeat (first|refine bA ?_ _|refine bB ?_|refine bC ?_ _));exact BK234.out)):gb246 ≠ gb234))
                  have n15_:=zM ((by rw [hg];exact Nat.ne_of_lt (blk_lt (g:=gb239) (o:=.cells #[.int .i64 (wrap64 (t236 + t231)),.int .i64 (wrap64 (t238 + t232))] 40 (0,0)) (by (with_reducible repeat (first|refine bA ?_ _|refine bB ?_|refine bC ?_ _));exact BK239.out)):gb239 ≠ gb246))
                  have n16_:=zM ((by rw [hg];exact Nat.ne_of_gt (blk_lt (g:=gb239) (o:=.cells #[.int .i64 (wrap64 (t236 + t231)),.int .i64 (wrap64 (t238 + t232))] 40 (0,0)) (by (with_reducible repeat (first|refine bA ?_ _|refine bB ?_|refine bC ?_ _));exact BK239.out)):gb246 ≠ gb239))
                  have n17_:=zM ((by rw [hg];exact Nat.ne_of_lt (blk_lt (g:=gb241) (o:=.cells #[.int .i64 ((rd_T38 l1 (ji66)).f0),.int .i64 ((rd_T38 l1 (ji66)).f1)] 38 (0,0)) (by (with_reducible repeat (first|refine bA ?_ _|refine bB ?_|refine bC ?_ _));exact BK241.out)):gb241 ≠ gb246))
                  have n18_:=zM ((by rw [hg];exact Nat.ne_of_gt (blk_lt (g:=gb241) (o:=.cells #[.int .i64 ((rd_T38 l1 (ji66)).f0),.int .i64 ((rd_T38 l1 (ji66)).f1)] 38 (0,0)) (by (with_reducible repeat (first|refine bA ?_ _|refine bB ?_|refine bC ?_ _));exact BK241.out)):gb246 ≠ gb241))
                  clear BK219
                  clear BK220
                  clear BK234
                  clear BK239
                  clear BK241
                  clear HB
                  have BK219:=n0_
                  have BK220:=n1_
                  have BK234:=n2_
                  have BK239:=n3_
                  have BK241:=n4_
                  have HB:=n5_
                  have BK246:=n6_
                  have GW246:=n7_
                  have GE246:=n8_
                  have NB219_246:=n9_
                  have NB246_219:=n10_
                  have NB220_246:=n11_
                  have NB246_220:=n12_
                  have NB234_246:=n13_
                  have NB246_234:=n14_
                  have NB239_246:=n15_
                  have NB246_239:=n16_
                  have NB241_246:=n17_
                  have NB246_241:=n18_
                  clear n0_ n1_ n2_ n3_ n4_ n5_ n6_ n7_ n8_ n9_ n10_ n11_ n12_ n13_ n14_ n15_ n16_ n17_ n18_
                  clear hb hbox hg
                  refine hK.out _ _ ⟨(blk_cell BK219.out 0).trans rfl,(blk_cell BK219.out 1).trans rfl,(blk_cell BK241.out 0).trans rfl,(blk_cell BK241.out 1).trans rfl⟩ (fun hHeld=>?_)
                  clear hK K
                  refine norm_ (a':=?_) ?_ ?_
                  rotate_left
                  ·show Act.put _ (some 19) _ = _
                   simp only [Act.put,zS,z0,z1,i64_w,i32_w]
                   rfl
                  refine one_ (i:=4) (N:=some 113) #[true,true,true,true,true,true,false,false,false,false,false,true,false,false] rfl rfl (one_of HT_.out (by kernel_rfl)) (by decide) (fun K hK=>?_)
                  refine goesW_ Try.func60 (by kernel_rfl) rfl #[.agg #[.int .i64 ((rd_T38 l1 (ji66)).f0),.int .i64 ((rd_T38 l1 (ji66)).f1)]] (by rfl) rfl rfl (by (try simp only [List.map_toArray,List.map_cons,List.map_nil]);first|done|(simp only [hji66];rfl)|rfl|(simp only [List.length_drop,List.length_take];rfl)) ?_
                  with_reducible refine (impl_timeOf.calls ((rd_T38 l1 (ji66)).f0) ((rd_T38 l1 (ji66)).f1) t242 _ A68.out).mono ?_
                  rintro e w80 ⟨rfl,hb⟩
                  refine ⟨_,rfl,?_⟩
                  have n0_:=zM (blk_below (g:=gb219) (o:=.cells #[.int .i64 a0_0,.int .i64 a0_1] 27 (0,0)) (by (with_reducible repeat (first|refine bA ?_ _|refine bB ?_|refine bC ?_ _));exact BK219.out) hb)
                  have n1_:=zM (blk_below (g:=gb220) (o:=.cells #[.int .i64 x221000_40,.int .i64 x221001_40] 40 (0,0)) (by (with_reducible repeat (first|refine bA ?_ _|refine bB ?_|refine bC ?_ _));exact BK220.out) hb)
                  have n2_:=zM (blk_below (g:=gb234) (o:=.cells #[.int .i64 t231,.int .i64 t232] 40 (0,0)) (by (with_reducible repeat (first|refine bA ?_ _|refine bB ?_|refine bC ?_ _));exact BK234.out) hb)
                  have n3_:=zM (blk_below (g:=gb239) (o:=.cells #[.int .i64 (wrap64 (t236 + t231)),.int .i64 (wrap64 (t238 + t232))] 40 (0,0)) (by (with_reducible repeat (first|refine bA ?_ _|refine bB ?_|refine bC ?_ _));exact BK239.out) hb)
                  have n4_:=zM (blk_below (g:=gb241) (o:=.cells #[.int .i64 ((rd_T38 l1 (ji66)).f0),.int .i64 ((rd_T38 l1 (ji66)).f1)] 38 (0,0)) (by (with_reducible repeat (first|refine bA ?_ _|refine bB ?_|refine bC ?_ _));exact BK241.out) hb)
                  have n5_:=zM (blk_below (g:=gb246) (o:=.cells #[.int .i64 0,.int .i64 0] 40 (0,0)) (by (with_reducible repeat (first|refine bA ?_ _|refine bB ?_|refine bC ?_ _));exact BK246.out) hb)
                  have n6_:=zM (bG (by repeat (first|(with_reducible first|exact HB.out|apply bE|apply bD|apply bF|refine below_set ?_ GE219.out|refine below_set ?_ GE220.out|refine below_set ?_ GE234.out|refine below_set ?_ GE239.out|refine below_set ?_ GE241.out|refine below_set ?_ GE246.out)|exact HB.out)) hb)
                  clear BK219
                  clear BK220
                  clear BK234
                  clear BK239
                  clear BK241
                  clear BK246
                  clear HB
                  have BK219:=n0_
                  have BK220:=n1_
                  have BK234:=n2_
                  have BK239:=n3_
                  have BK241:=n4_
                  have BK246:=n5_
                  have HB:=n6_
                  clear n0_ n1_ n2_ n3_ n4_ n5_ n6_
                  (try clear hb)
                  (try clear hb2)
                  (try clear hk)
                  (try clear hi)
                  refine hK.out _ _ ⟨(blk_cell BK219.out 0).trans rfl,(blk_cell BK219.out 1).trans rfl,(blk_cell BK241.out 0).trans rfl,(blk_cell BK241.out 1).trans rfl⟩ (fun hHeld=>?_)
                  clear hK K
                  refine norm_ (a':=?_) ?_ ?_
                  rotate_left
                  ·show Act.put _ (some 113) _ = _
                   simp only [Act.put,zS,z0,z1,i64_w,i32_w]
                   rfl
                  refine pure_ (i:=6) (N:=some 115) (v:=?_) (a':=?_) #[true,true,true,true,true,true,true,false,false,false,false,true,false,false] rfl rfl (any_of HT_.out (by kernel_rfl)) (fun _ _ _ h=>h) (Or.inl ⟨by rfl,?_⟩) ?_ ?_
                  rotate_left
                  ·intro w'
                   go_simp
                   with_reducible rfl
                  rotate_left
                  ·simp only [Act.put,zS,z0,z1,i64_w,i32_w]
                   rfl
                  refine one_ (i:=7) (N:=some 116) #[true,true,true,true,true,true,true,true,false,false,false,true,false,false] rfl rfl (one_of HT_.out (by kernel_rfl)) (by decide) (fun K hK=>?_)
                  refine goesW_ Try.func62 (by kernel_rfl) rfl #[.agg #[.int .i64 a0_0,.int .i64 a0_1],.int .i64 (wrap64 (t242 - a2))] (by rfl) rfl rfl (by (try simp only [List.map_toArray,List.map_cons,List.map_nil]);first|done|rfl) ?_
                  with_reducible refine (impl_counts.calls a0_0 a0_1 (wrap64 (t242 - a2)) t243 t244 t245 _ A69.out).mono ?_
                  rintro e w81 ⟨rfl,hb⟩
                  refine ⟨_,rfl,?_⟩
                  have n0_:=zM (blk_below (g:=gb219) (o:=.cells #[.int .i64 a0_0,.int .i64 a0_1] 27 (0,0)) (by (with_reducible repeat (first|refine bA ?_ _|refine bB ?_|refine bC ?_ _));exact BK219.out) hb)
                  have n1_:=zM (blk_below (g:=gb220) (o:=.cells #[.int .i64 x221000_40,.int .i64 x221001_40] 40 (0,0)) (by (with_reducible repeat (first|refine bA ?_ _|refine bB ?_|refine bC ?_ _));exact BK220.out) hb)
                  have n2_:=zM (blk_below (g:=gb234) (o:=.cells #[.int .i64 t231,.int .i64 t232] 40 (0,0)) (by (with_reducible repeat (first|refine bA ?_ _|refine bB ?_|refine bC ?_ _));exact BK234.out) hb)
                  have n3_:=zM (blk_below (g:=gb239) (o:=.cells #[.int .i64 (wrap64 (t236 + t231)),.int .i64 (wrap64 (t238 + t232))] 40 (0,0)) (by (with_reducible repeat (first|refine bA ?_ _|refine bB ?_|refine bC ?_ _));exact BK239.out) hb)
                  have n4_:=zM (blk_below (g:=gb241) (o:=.cells #[.int .i64 ((rd_T38 l1 (ji66)).f0),.int .i64 ((rd_T38 l1 (ji66)).f1)] 38 (0,0)) (by (with_reducible repeat (first|refine bA ?_ _|refine bB ?_|refine bC ?_ _));exact BK241.out) hb)
                  have n5_:=zM (blk_below (g:=gb246) (o:=.cells #[.int .i64 0,.int .i64 0] 40 (0,0)) (by (with_reducible repeat (first|refine bA ?_ _|refine bB ?_|refine bC ?_ _));exact BK246.out) hb)
                  have n6_:=zM (bG (by repeat (first|(with_reducible first|exact HB.out|apply bE|apply bD|apply bF|refine below_set ?_ GE219.out|refine below_set ?_ GE220.out|refine below_set ?_ GE234.out|refine below_set ?_ GE239.out|refine below_set ?_ GE241.out|refine below_set ?_ GE246.out)|exact HB.out)) hb)
                  clear BK219
                  clear BK220
                  clear BK234
                  clear BK239
                  clear BK241
                  clear BK246
                  clear HB
                  have BK219:=n0_
                  have BK220:=n1_
                  have BK234:=n2_
                  have BK239:=n3_
                  have BK241:=n4_
                  have BK246:=n5_
                  have HB:=n6_
                  clear n0_ n1_ n2_ n3_ n4_ n5_ n6_
                  (try clear hb)
                  (try clear hb2)
                  (try clear hk)
                  (try clear hi)
                  refine hK.out _ _ ⟨(blk_cell BK219.out 0).trans rfl,(blk_cell BK219.out 1).trans rfl,(blk_cell BK241.out 0).trans rfl,(blk_cell BK241.out 1).trans rfl⟩ (fun hHeld=>?_)
                  clear hK K
                  refine norm_ (a':=?_) ?_ ?_
                  rotate_left
                  ·show Act.put _ (some 116) _ = _
                   simp only [Act.put,zS,z0,z1,i64_w,i32_w]
                   rfl
                  refine pure_ (i:=8) (N:=some 108) (v:=?_) (a':=?_) #[true,true,true,true,true,true,true,true,true,false,false,true,false,false] rfl rfl (any_of HT_.out (by kernel_rfl)) (fun _ _ _ h=>h) (Or.inl ⟨by rfl,?_⟩) ?_ ?_
                  rotate_left
                  ·intro w'
                   go_simp
                   with_reducible rfl
                  rotate_left
                  ·simp only [Act.put,zS,z0,z1,i64_w,i32_w]
                   rfl
                  refine pure_ (i:=9) (N:=some 117) (v:=?_) (a':=?_) #[true,true,true,true,true,true,true,true,true,true,false,true,false,false] rfl rfl (any_of HT_.out (by kernel_rfl)) (fun _ _ _ h=>h) (Or.inl ⟨by rfl,?_⟩) ?_ ?_
                  rotate_left
                  ·intro w'
                   go_simp
                   with_reducible rfl
                  rotate_left
                  ·simp only [Act.put,zS,z0,z1,i64_w,i32_w]
                   rfl
                  refine pure_ (i:=10) (N:=some 118) (v:=?_) (a':=?_) #[true,true,true,true,true,true,true,true,true,true,true,true,false,false] rfl rfl (any_of HT_.out (by kernel_rfl)) (fun _ _ _ h=>h) (Or.inl ⟨by rfl,?_⟩) ?_ ?_
                  rotate_left
                  ·intro w'
                   go_simp
                   with_reducible rfl
                  rotate_left
                  ·simp only [Act.put,zS,z0,z1,i64_w,i32_w]
                   rfl
                  exact norm_ (by simp only [putAll,Act.put,zS,z0,z1]) (hCont (gb246) _ ⟨hHeld,(by (with_reducible repeat (first|refine bA ?_ _|refine bB ?_|refine bC ?_ _));exact BK219.out),(by (with_reducible repeat (first|refine bA ?_ _|refine bB ?_|refine bC ?_ _));exact BK220.out),(by (with_reducible repeat (first|refine bA ?_ _|refine bB ?_|refine bC ?_ _));exact BK234.out),(by (with_reducible repeat (first|refine bA ?_ _|refine bB ?_|refine bC ?_ _));exact BK239.out),(by (with_reducible repeat (first|refine bA ?_ _|refine bB ?_|refine bC ?_ _));exact BK241.out),(by (with_reducible repeat (first|refine bA ?_ _|refine bB ?_|refine bC ?_ _));exact BK246.out),GW246.out,GE246.out,NB219_246.out,NB246_219.out,NB220_246.out,NB246_220.out,NB234_246.out,NB246_234.out,NB239_246.out,NB246_239.out,NB241_246.out,NB246_241.out,(by repeat (first|(with_reducible first|exact HB.out|apply bE|apply bD|apply bF|refine below_set ?_ GE219.out|refine below_set ?_ GE220.out|refine below_set ?_ GE234.out|refine below_set ?_ GE239.out|refine below_set ?_ GE241.out|refine below_set ?_ GE246.out)|exact HB.out))⟩)
                rintro gb246 w82 ⟨hS_,h0_,h1_,h2_,h3_,h4_,h5_,h6_,h7_,h8_,h9_,h10_,h11_,h12_,h13_,h14_,h15_,h16_,h17_,h18_⟩
                have n0_:Aside0 (w82.heap[gb219]? = some (.cells #[.int .i64 a0_0,.int .i64 a0_1] 27 (0,0))):=⟨h0_⟩
                have n1_:Aside0 (w82.heap[gb220]? = some (.cells #[.int .i64 x221000_40,.int .i64 x221001_40] 40 (0,0))):=⟨h1_⟩
                have n2_:Aside0 (w82.heap[gb234]? = some (.cells #[.int .i64 t231,.int .i64 t232] 40 (0,0))):=⟨h2_⟩
                have n3_:Aside0 (w82.heap[gb239]? = some (.cells #[.int .i64 (wrap64 (t236 + t231)),.int .i64 (wrap64 (t238 + t232))] 40 (0,0))):=⟨h3_⟩
                have n4_:Aside0 (w82.heap[gb241]? = some (.cells #[.int .i64 ((rd_T38 l1 (ji66)).f0),.int .i64 ((rd_T38 l1 (ji66)).f1)] 38 (0,0))):=⟨h4_⟩
                have n5_:Aside0 (w82.heap[gb246]? = some (.cells #[.int .i64 0,.int .i64 0] 40 (0,0))):=⟨h5_⟩
                have n6_:Aside0 (w.heap.size ≤ gb246):=⟨h6_⟩
                have n7_:Aside0 (w.heap.size ≤ gb246):=⟨h7_⟩
                have n8_:Aside0 (gb219 ≠ gb246):=⟨h8_⟩
                have n9_:Aside0 (gb246 ≠ gb219):=⟨h9_⟩
                have n10_:Aside0 (gb220 ≠ gb246):=⟨h10_⟩
                have n11_:Aside0 (gb246 ≠ gb220):=⟨h11_⟩
                have n12_:Aside0 (gb234 ≠ gb246):=⟨h12_⟩
                have n13_:Aside0 (gb246 ≠ gb234):=⟨h13_⟩
                have n14_:Aside0 (gb239 ≠ gb246):=⟨h14_⟩
                have n15_:Aside0 (gb246 ≠ gb239):=⟨h15_⟩
                have n16_:Aside0 (gb241 ≠ gb246):=⟨h16_⟩
                have n17_:Aside0 (gb246 ≠ gb241):=⟨h17_⟩
                have n18_:Aside0 (Below w.heap.size w w82):=⟨h18_⟩
                clear BK219
                clear BK220
                clear BK234
                clear BK239
                clear BK241
                clear HB
                clear h0_ h1_ h2_ h3_ h4_ h5_ h6_ h7_ h8_ h9_ h10_ h11_ h12_ h13_ h14_ h15_ h16_ h17_ h18_
                have BK219:=n0_
                have BK220:=n1_
                have BK234:=n2_
                have BK239:=n3_
                have BK241:=n4_
                have BK246:=n5_
                have GW246:=n6_
                have GE246:=n7_
                have NB219_246:=n8_
                have NB246_219:=n9_
                have NB220_246:=n10_
                have NB246_220:=n11_
                have NB234_246:=n12_
                have NB246_234:=n13_
                have NB239_246:=n14_
                have NB246_239:=n15_
                have NB241_246:=n16_
                have NB246_241:=n17_
                have HB:=n18_
                clear n0_ n1_ n2_ n3_ n4_ n5_ n6_ n7_ n8_ n9_ n10_ n11_ n12_ n13_ n14_ n15_ n16_ n17_ n18_
                have hHeld:w82.cell? ⟨gb219,0,none⟩ = some (.int .i64 a0_0) ∧ w82.cell? ⟨gb219,1,none⟩ = some (.int .i64 a0_1) ∧ w82.cell? ⟨gb241,0,none⟩ = some (.int .i64 ((rd_T38 l1 (ji66)).f0)) ∧ w82.cell? ⟨gb241,1,none⟩ = some (.int .i64 ((rd_T38 l1 (ji66)).f1)):=hS_
                refine norm_ (a':=?_) ?_ ?_
                rotate_left
                ·simp only [putAll,Act.put,zS,z0,z1]
                 rfl
                refine one_ (i:=12) (N:=none) #[true,true,true,true,true,true,true,true,true,true,true,true,true,false] rfl rfl (one_of HT_.out (by kernel_rfl)) (by decide) (fun K hK=>?_)
                have hs83:w82.cell? ⟨gb246,0,none⟩ = some (.int .i64 0):=(blk_cell BK246.out 0).trans rfl
                have hfs83:=blk_frozen BK246.out 0
                have hns83_0:=NB219_246.out
                have hns83_1:=NB220_246.out
                have hns83_2:=NB234_246.out
                have hns83_3:=NB239_246.out
                have hns83_4:=NB241_246.out
                have hms83_0:=NB246_219.out
                have hms83_1:=NB246_220.out
                have hms83_2:=NB246_234.out
                have hms83_3:=NB246_239.out
                have hms83_4:=NB246_241.out
                have hs84:w82.cell? ⟨gb246,1,none⟩ = some (.int .i64 0):=(blk_cell BK246.out 1).trans rfl
                have hfs84:=blk_frozen BK246.out 1
                have hns84_0:=NB219_246.out
                have hns84_1:=NB220_246.out
                have hns84_2:=NB234_246.out
                have hns84_3:=NB239_246.out
                have hns84_4:=NB241_246.out
                have hms84_0:=NB246_219.out
                have hms84_1:=NB246_220.out
                have hms84_2:=NB246_234.out
                have hms84_3:=NB246_239.out
                have hms84_4:=NB246_241.out
                refine skip_ (w1:=?_) (by rfl) rfl ?_ ?_
                rotate_left
                ·go_simp
                 rfl
                refine hK.out _ _ ⟨((cell_far (p:=⟨gb246,_,none⟩) NB219_246.out _).trans (((cell_far (p:=⟨gb246,_,none⟩) NB219_246.out _).trans (hHeld.1)))),((cell_far (p:=⟨gb246,_,none⟩) NB219_246.out _).trans (((cell_far (p:=⟨gb246,_,none⟩) NB219_246.out _).trans (hHeld.2.1)))),((cell_far (p:=⟨gb246,_,none⟩) NB241_246.out _).trans (((cell_far (p:=⟨gb246,_,none⟩) NB241_246.out _).trans (hHeld.2.2.1)))),((cell_far (p:=⟨gb246,_,none⟩) NB241_246.out _).trans (((cell_far (p:=⟨gb246,_,none⟩) NB241_246.out _).trans (hHeld.2.2.2))))⟩ (fun hHeld=>?_)
                clear hK K
                refine pure_ (i:=13) (N:=some 20) (v:=?_) (a':=?_) #[true,true,true,true,true,true,true,true,true,true,true,true,true,true] rfl rfl (any_of HT_.out (by kernel_rfl)) (fun _ _ _ h=>h) (Or.inl ⟨by rfl,?_⟩) ?_ ?_
                rotate_left
                ·intro w'
                 go_simp
                 with_reducible rfl
                rotate_left
                ·simp only [Act.put,zS,z0,z1,i64_w,i32_w]
                 rfl
                refine done_ (done_of HT_.out (by kernel_rfl)) ?_
                go_upto_if 120 with (fail)
                go_cut [] (fun wc=>∃ (kq:Nat) (x221000_69:Int) (x221001_69:Int),Aside0 (impl_between_60_61_62.j5 kq (wrap64 (t236 + t231)) (wrap64 (t238 + t232)) ((rd_T38 l1 (ji66)).f0) ((rd_T38 l1 (ji66)).f1) t243 t244 = some (r1,r2,r3)) ∧ Aside0 (kq ≤ kj40) ∧ Aside0 (wc.heap[gb219]? = some (.cells #[.int .i64 a0_0,.int .i64 a0_1] 27 (0,0))) ∧ Aside0 (wc.heap[gb220]? = some (.cells #[.int .i64 x221000_69,.int .i64 x221001_69] 40 (0,0))) ∧ Aside0 (wc.heap[gb234]? = some (.cells #[.int .i64 t231,.int .i64 t232] 40 (0,0))) ∧ Aside0 (wc.heap[gb239]? = some (.cells #[.int .i64 (wrap64 (t236 + t231)),.int .i64 (wrap64 (t238 + t232))] 40 (0,0))) ∧ Aside0 (wc.heap[gb241]? = some (.cells #[.int .i64 ((rd_T38 l1 (ji66)).f0),.int .i64 ((rd_T38 l1 (ji66)).f1)] 38 (0,0))) ∧ Aside0 (wc.heap[gb246]? = some (.cells #[.int .i64 t243,.int .i64 t244] 40 (0,0))) ∧ Aside0 (Below w.heap.size w wc))
                case first =>
                 have H:=HC70.out
                 clear HC70
                 by_cases c85:t245 = true
                 ·subst c85
                  have H1:(impl_between_60_61_62.j5 kj40 (wrap64 (t236 + t231)) (wrap64 (t238 + t232)) ((rd_T38 l1 (ji66)).f0) ((rd_T38 l1 (ji66)).f1) t243 t244) = some (r1,r2,r3):=by rw [if_pos rfl] at H;exact H
                  clear H
                  have H:=H1
                  clear H1
                  have H':=zM H
                  clear H
                  go_wp2
                  go_meet
                  case rel=>exact ⟨_,(x221000_40),(x221001_40),H',⟨by have:=HJ6.out;have:=HJ24.out;have:=HJ28.out;have:=HJ40.out;first|omega|exact Nat.le_refl _⟩,⟨by (with_reducible repeat (first|refine bA ?_ _|refine bB ?_|refine bC ?_ _));refine blk_far ?_ NB219_246.out _;(with_reducible repeat (first|refine bA ?_ _|refine bB ?_|refine bC ?_ _));refine blk_far ?_ NB219_246.out _;(with_reducible repeat (first|refine bA ?_ _|refine bB ?_|refine bC ?_ _));exact BK219.out⟩,⟨by (with_reducible repeat (first|refine bA ?_ _|refine bB ?_|refine bC ?_ _));refine blk_far ?_ NB220_246.out _;(with_reducible repeat (first|refine bA ?_ _|refine bB ?_|refine bC ?_ _));refine blk_far ?_ NB220_246.out _;(with_reducible repeat (first|refine bA ?_ _|refine bB ?_|refine bC ?_ _));exact BK220.out⟩,⟨by (with_reducible repeat (first|refine bA ?_ _|refine bB ?_|refine bC ?_ _));refine blk_far ?_ NB234_246.out _;(with_reducible repeat (first|refine bA ?_ _|refine bB ?_|refine bC ?_ _));refine blk_far ?_ NB234_246.out _;(with_reducible repeat (first|refine bA ?_ _|refine bB ?_|refine bC ?_ _));exact BK234.out⟩,⟨by (with_reducible repeat (first|refine bA ?_ _|refine bB ?_|refine bC ?_ _));refine blk_far ?_ NB239_246.out _;(with_reducible repeat (first|refine bA ?_ _|refine bB ?_|refine bC ?_ _));refine blk_far ?_ NB239_246.out _;(with_reducible repeat (first|refine bA ?_ _|refine bB ?_|refine bC ?_ _));exact BK239.out⟩,⟨by (with_reducible repeat (first|refine bA ?_ _|refine bB ?_|refine bC ?_ _));refine blk_far ?_ NB241_246.out _;(with_reducible repeat (first|refine bA ?_ _|refine bB ?_|refine bC ?_ _));refine blk_far ?_ NB241_246.out _;(with_reducible repeat (first|refine bA ?_ _|refine bB ?_|refine bC ?_ _));exact BK241.out⟩,⟨by (with_reducible repeat (first|refine bA ?_ _|refine bB ?_|refine bC ?_ _));refine bH (cs:=#[.int .i64 t243,.int .i64 0]) ?_ 1 _ rfl;(with_reducible repeat (first|refine bA ?_ _|refine bB ?_|refine bC ?_ _));refine bH (cs:=#[.int .i64 0,.int .i64 0]) ?_ 0 _ rfl;(with_reducible repeat (first|refine bA ?_ _|refine bB ?_|refine bC ?_ _));exact BK246.out⟩,⟨by repeat (first|(with_reducible first|exact HB.out|apply bE|apply bD|apply bF|refine below_set ?_ GE219.out|refine below_set ?_ GE220.out|refine below_set ?_ GE234.out|refine below_set ?_ GE239.out|refine below_set ?_ GE241.out|refine below_set ?_ GE246.out)|exact HB.out)⟩⟩
                 ·replace c85:=Bool.eq_false_iff.mpr c85
                  subst c85
                  have H1:(some (0,0,false)) = some (r1,r2,r3):=by rw [if_neg (show ¬ (false = true) by decide)] at H;exact H
                  clear H
                  have H:=H1
                  clear H1
                  simp only [zI,zJ] at H
                  obtain ⟨rfl,rfl,rfl⟩:=H
                  have hnb86:=NB220_219.out
                  have hnc86:=NB219_220.out
                  have hnb87:=NB220_234.out
                  have hnc87:=NB234_220.out
                  have hnb88:=NB220_239.out
                  have hnc88:=NB239_220.out
                  have hnb89:=NB220_241.out
                  have hnc89:=NB241_220.out
                  have hnb90:=NB220_246.out
                  have hnc90:=NB246_220.out
                  have hcz91_0:w82.cell? ⟨gb220,0,none⟩ = some (.int .i64 x221000_40):=(blk_cell BK220.out 0).trans rfl
                  have hcz91_1:w82.cell? ⟨gb220,1,none⟩ = some (.int .i64 x221001_40):=(blk_cell BK220.out 1).trans rfl
                  have hfz91_0:=blk_frozen BK220.out 0
                  have hfz91_1:=blk_frozen BK220.out 1
                  go_wp2
                  refine bodyPost_ret (results_ct rfl _ _ gb220 40 #[.int .i64 0,.int .i64 0] (0,0) _ rfl (by (with_reducible repeat (first|refine bA ?_ _|refine bB ?_|refine bC ?_ _));refine bH (cs:=#[.int .i64 0,.int .i64 x221001_40]) ?_ 1 _ rfl;(with_reducible repeat (first|refine bA ?_ _|refine bB ?_|refine bC ?_ _));refine bH (cs:=#[.int .i64 x221000_40,.int .i64 x221001_40]) ?_ 0 _ rfl;(with_reducible repeat (first|refine bA ?_ _|refine bB ?_|refine bC ?_ _));refine blk_far ?_ NB220_246.out _;(with_reducible repeat (first|refine bA ?_ _|refine bB ?_|refine bC ?_ _));refine blk_far ?_ NB220_246.out _;(with_reducible repeat (first|refine bA ?_ _|refine bB ?_|refine bC ?_ _));exact BK220.out) Try.underlying40 rfl (by kernel_rfl)) rfl ?_
                  exact ⟨by first|rfl|(simp only [← hji66];first|rfl|(simp [errW_none,errW_some] <;> rfl))|(simp [*,errW_none,errW_some] <;> rfl),by repeat (first|(with_reducible first|exact HB.out|apply bE|apply bD|apply bF|refine below_set ?_ GE219.out|refine below_set ?_ GE220.out|refine below_set ?_ GE234.out|refine below_set ?_ GE239.out|refine below_set ?_ GE241.out|refine below_set ?_ GE246.out)|exact HB.out)⟩
                case rest =>
                 clear HC70
                 try clear p2
                 try clear c6
                 try clear p6
                 try clear c8
                 try clear c9
                 try clear c60
                 try clear c62
                 try clear p64
                 try clear c85
                 try clear c86
                 try clear c87
                 try clear c88
                 try clear c89
                 try clear c90
                 try clear hcz91_0
                 try clear hcz91_1
                 try clear hfz91_0
                 try clear hfz91_1
                 obtain ⟨kq,x221000_69,x221001_69,HA,HJ69,BK219,BK220,BK234,BK239,BK241,BK246,HB⟩:=hcut
                 cases kq with
                 | zero=>exact absurd HA.out (by simp [impl_between_60_61_62.j5])
                 | succ kj69 =>
                  have H:=HA.out
                  clear HA
                  simp only [impl_between_60_61_62.j5] at H
                  replace H:=zO H
                  obtain ⟨t247,A920,H⟩:=H
                  replace H:((impl_countOf.f ((rd_T38 l1 (ji66)).f0) ((rd_T38 l1 (ji66)).f1)).bind fun t248=>(impl_between_60_61_62.j6 kj69 (mx (wrap64 (t236 + t231)) (wrap64 (t247 - t244))) (mn (wrap64 (t238 + t232)) (wrap64 (t248 - t243))))) = some (r1,r2,r3):=H
                  have A92:=zM A920
                  clear A920
                  obtain ⟨ji93,hji93⟩:∃ j_:Int,(mx (wrap64 (t236 + t231)) (wrap64 (t247 - t244))) = j_:=⟨_,rfl⟩
                  replace H:((impl_countOf.f ((rd_T38 l1 (ji66)).f0) ((rd_T38 l1 (ji66)).f1)).bind fun t248=>(impl_between_60_61_62.j6 kj69 ji93 (mn (wrap64 (t238 + t232)) (wrap64 (t248 - t243))))) = some (r1,r2,r3):=by first|(rw [hji93] at H;exact H)|(simp only [hji93] at H ⊢;exact H)
                  (try rw [hji93] at hji66)
                  (try rw [hji93] at hji66w)
                  (try rw [hji93] at A92)
                  have hji93_:(if (wrap64 (t236 + t231)) < (wrap64 (t247 - t244)) then (wrap64 (t247 - t244)) else (wrap64 (t236 + t231))) = ji93:=hji93
                  replace H:=zO H
                  obtain ⟨t248,A940,H⟩:=H
                  replace H:(impl_between_60_61_62.j6 kj69 ji93 (mn (wrap64 (t238 + t232)) (wrap64 (t248 - t243)))) = some (r1,r2,r3):=H
                  have A94:=zM A940
                  clear A940
                  obtain ⟨ji95,hji95⟩:∃ j_:Int,(mn (wrap64 (t238 + t232)) (wrap64 (t248 - t243))) = j_:=⟨_,rfl⟩
                  replace H:(impl_between_60_61_62.j6 kj69 ji93 ji95) = some (r1,r2,r3):=by first|(rw [hji95] at H;exact H)|(simp only [hji95] at H ⊢;exact H)
                  (try rw [hji95] at hji66)
                  (try rw [hji95] at hji93)
                  (try rw [hji95] at hji66w)
                  (try rw [hji95] at hji93w)
                  (try rw [hji95] at A92)
                  (try rw [hji95] at A94)
                  have hji95_:(if (wrap64 (t248 - t243)) < (wrap64 (t238 + t232)) then (wrap64 (t248 - t243)) else (wrap64 (t238 + t232))) = ji95:=hji95
                  have H':=zM H
                  clear H
                  try go_wp2
                  have n0_:=zM (bB BK219.out)
                  have n1_:=zM (bB BK220.out)
                  have n2_:=zM (bB BK234.out)
                  have n3_:=zM (bB BK239.out)
                  have n4_:=zM (bB BK241.out)
                  have n5_:=zM (bB BK246.out)
                  have n6_:=zM (bF HB.out)
                  clear BK219
                  clear BK220
                  clear BK234
                  clear BK239
                  clear BK241
                  clear BK246
                  clear HB
                  have BK219:=n0_
                  have BK220:=n1_
                  have BK234:=n2_
                  have BK239:=n3_
                  have BK241:=n4_
                  have BK246:=n5_
                  have HB:=n6_
                  clear n0_ n1_ n2_ n3_ n4_ n5_ n6_
                  refine start_ (n:=20) (S:=fun w'=>w'.cell? ⟨gb239,0,none⟩ = some (.int .i64 (wrap64 (t236 + t231))) ∧ w'.cell? ⟨gb239,1,none⟩ = some (.int .i64 (wrap64 (t238 + t232))) ∧ w'.cell? ⟨gb241,0,none⟩ = some (.int .i64 ((rd_T38 l1 (ji66)).f0)) ∧ w'.cell? ⟨gb241,1,none⟩ = some (.int .i64 ((rd_T38 l1 (ji66)).f1)) ∧ w'.cell? ⟨gb246,0,none⟩ = some (.int .i64 t243) ∧ w'.cell? ⟨gb246,1,none⟩ = some (.int .i64 t244)) (ds:=[19]) #[false,false,false,false,false,false,false,false,false,false,false,false,false,false,false,false,false,false,false,false] (by kernel_rfl) rfl rfl ⟨(blk_cell BK239.out 0).trans rfl,(blk_cell BK239.out 1).trans rfl,(blk_cell BK241.out 0).trans rfl,(blk_cell BK241.out 1).trans rfl,(blk_cell BK246.out 0).trans rfl,(blk_cell BK246.out 1).trans rfl⟩ (fun hHeld=>?_);refine with_tabW impl_between_60_61_62.tab15 impl_between_60_61_62.bits15 (fun HT_ HW_=>?_)
                  generalize wc.drew = w96 at BK219 BK220 BK234 BK239 BK241 BK246 HB hHeld ⊢
                  refine pure_ (i:=0) (N:=some 122) (v:=?_) (a':=?_) #[true,false,false,false,false,false,false,false,false,false,false,false,false,false,false,false,false,false,false,false] rfl rfl (any_of HT_.out (by kernel_rfl)) (fun _ _ _ h=>h) (Or.inl ⟨by rfl,?_⟩) ?_ ?_
                  rotate_left
                  ·intro w'
                   go_simp
                   with_reducible rfl
                  rotate_left
                  ·simp only [Act.put,zS,z0,z1,i64_w,i32_w]
                   rfl
                  refine pure_ (i:=2) (N:=some 124) (v:=?_) (a':=?_) #[true,false,true,false,false,false,false,false,false,false,false,false,false,false,false,false,false,false,false,false] rfl rfl (any_of HT_.out (by kernel_rfl)) (fun _ _ _ h=>h) (Or.inl ⟨by rfl,?_⟩) ?_ ?_
                  rotate_left
                  ·intro w'
                   go_simp
                   with_reducible rfl
                  rotate_left
                  ·simp only [Act.put,zS,z0,z1,i64_w,i32_w]
                   rfl
                  refine pure_ (i:=5) (N:=some 127) (v:=?_) (a':=?_) #[true,false,true,false,false,true,false,false,false,false,false,false,false,false,false,false,false,false,false,false] rfl rfl (any_of HT_.out (by kernel_rfl)) (fun _ _ _ h=>h) (Or.inl ⟨by rfl,?_⟩) ?_ ?_
                  rotate_left
                  ·intro w'
                   go_simp
                   with_reducible rfl
                  rotate_left
                  ·simp only [Act.put,zS,z0,z1,i64_w,i32_w]
                   rfl
                  refine pure_ (i:=9) (N:=some 131) (v:=?_) (a':=?_) #[true,false,true,false,false,true,false,false,false,true,false,false,false,false,false,false,false,false,false,false] rfl rfl (any_of HT_.out (by kernel_rfl)) (fun _ _ _ h=>h) (Or.inl ⟨by rfl,?_⟩) ?_ ?_
                  rotate_left
                  ·intro w'
                   go_simp
                   with_reducible rfl
                  rotate_left
                  ·simp only [Act.put,zS,z0,z1,i64_w,i32_w]
                   rfl
                  refine pure_ (i:=11) (N:=some 133) (v:=?_) (a':=?_) #[true,false,true,false,false,true,false,false,false,true,false,true,false,false,false,false,false,false,false,false] rfl rfl (any_of HT_.out (by kernel_rfl)) (fun _ _ _ h=>h) (Or.inl ⟨by rfl,?_⟩) ?_ ?_
                  rotate_left
                  ·intro w'
                   go_simp
                   with_reducible rfl
                  rotate_left
                  ·simp only [Act.put,zS,z0,z1,i64_w,i32_w]
                   rfl
                  refine pure_ (i:=14) (N:=some 136) (v:=?_) (a':=?_) #[true,false,true,false,false,true,false,false,false,true,false,true,false,false,true,false,false,false,false,false] rfl rfl (any_of HT_.out (by kernel_rfl)) (fun _ _ _ h=>h) (Or.inl ⟨by rfl,?_⟩) ?_ ?_
                  rotate_left
                  ·intro w'
                   go_simp
                   with_reducible rfl
                  rotate_left
                  ·simp only [Act.put,zS,z0,z1,i64_w,i32_w]
                   rfl
                  refine take_ (i:=1) (N:=some 123) (v:=?_) (a':=?_) #[true,true,true,false,false,true,false,false,false,true,false,true,false,false,true,false,false,false,false,false] rfl rfl (take_ofW HT_.out HW_.out (by kernel_rfl)) (fun _ _ _ h=>h) (Or.inl ⟨by rfl,?_⟩) hHeld ?_ ?_
                  rotate_left
                  ·rintro w' ⟨s0,s1,s2,s3,s4,s5⟩
                   go_simp
                   with_reducible rfl
                  rotate_left
                  ·simp only [Act.put,zS,z0,z1,i64_w,i32_w]
                   rfl
                  refine take_ (i:=3) (N:=some 125) (v:=?_) (a':=?_) #[true,true,true,true,false,true,false,false,false,true,false,true,false,false,true,false,false,false,false,false] rfl rfl (take_ofW HT_.out HW_.out (by kernel_rfl)) (fun _ _ _ h=>h) (Or.inl ⟨by rfl,?_⟩) hHeld ?_ ?_
                  rotate_left
                  ·rintro w' ⟨s0,s1,s2,s3,s4,s5⟩
                   go_simp
                   with_reducible rfl
                  rotate_left
                  ·simp only [Act.put,zS,z0,z1,i64_w,i32_w]
                   rfl
                  refine take_ (i:=6) (N:=some 128) (v:=?_) (a':=?_) #[true,true,true,true,false,true,true,false,false,true,false,true,false,false,true,false,false,false,false,false] rfl rfl (take_ofW HT_.out HW_.out (by kernel_rfl)) (fun _ _ _ h=>h) (Or.inl ⟨by rfl,?_⟩) hHeld ?_ ?_
                  rotate_left
                  ·rintro w' ⟨s0,s1,s2,s3,s4,s5⟩
                   go_simp
                   with_reducible rfl
                  rotate_left
                  ·simp only [Act.put,zS,z0,z1,i64_w,i32_w]
                   rfl
                  refine take_ (i:=10) (N:=some 132) (v:=?_) (a':=?_) #[true,true,true,true,false,true,true,false,false,true,true,true,false,false,true,false,false,false,false,false] rfl rfl (take_ofW HT_.out HW_.out (by kernel_rfl)) (fun _ _ _ h=>h) (Or.inl ⟨by rfl,?_⟩) hHeld ?_ ?_
                  rotate_left
                  ·rintro w' ⟨s0,s1,s2,s3,s4,s5⟩
                   go_simp
                   with_reducible rfl
                  rotate_left
                  ·simp only [Act.put,zS,z0,z1,i64_w,i32_w]
                   rfl
                  refine take_ (i:=12) (N:=some 134) (v:=?_) (a':=?_) #[true,true,true,true,false,true,true,false,false,true,true,true,true,false,true,false,false,false,false,false] rfl rfl (take_ofW HT_.out HW_.out (by kernel_rfl)) (fun _ _ _ h=>h) (Or.inl ⟨by rfl,?_⟩) hHeld ?_ ?_
                  rotate_left
                  ·rintro w' ⟨s0,s1,s2,s3,s4,s5⟩
                   go_simp
                   with_reducible rfl
                  rotate_left
                  ·simp only [Act.put,zS,z0,z1,i64_w,i32_w]
                   rfl
                  refine take_ (i:=15) (N:=some 137) (v:=?_) (a':=?_) #[true,true,true,true,false,true,true,false,false,true,true,true,true,false,true,true,false,false,false,false] rfl rfl (take_ofW HT_.out HW_.out (by kernel_rfl)) (fun _ _ _ h=>h) (Or.inl ⟨by rfl,?_⟩) hHeld ?_ ?_
                  rotate_left
                  ·rintro w' ⟨s0,s1,s2,s3,s4,s5⟩
                   go_simp
                   with_reducible rfl
                  rotate_left
                  ·simp only [Act.put,zS,z0,z1,i64_w,i32_w]
                   rfl
                  refine one_ (i:=4) (N:=some 126) #[true,true,true,true,true,true,true,false,false,true,true,true,true,false,true,true,false,false,false,false] rfl rfl (one_of HT_.out (by kernel_rfl)) (by decide) (fun K hK=>?_)
                  refine goesW_ Try.func61 (by kernel_rfl) rfl #[.agg #[.int .i64 ((rd_T38 l1 (ji66)).f0),.int .i64 ((rd_T38 l1 (ji66)).f1)]] (by rfl) rfl rfl (by (try simp only [List.map_toArray,List.map_cons,List.map_nil]);first|done|(simp only [hji66];rfl)|rfl|(simp only [List.length_drop,List.length_take];rfl)) ?_
                  with_reducible refine (impl_countOf.calls ((rd_T38 l1 (ji66)).f0) ((rd_T38 l1 (ji66)).f1) t247 _ A92.out).mono ?_
                  rintro e w97 ⟨rfl,hb⟩
                  refine ⟨_,rfl,?_⟩
                  have n0_:=zM (blk_below (g:=gb219) (o:=.cells #[.int .i64 a0_0,.int .i64 a0_1] 27 (0,0)) (by (with_reducible repeat (first|refine bA ?_ _|refine bB ?_|refine bC ?_ _));exact BK219.out) hb)
                  have n1_:=zM (blk_below (g:=gb220) (o:=.cells #[.int .i64 x221000_69,.int .i64 x221001_69] 40 (0,0)) (by (with_reducible repeat (first|refine bA ?_ _|refine bB ?_|refine bC ?_ _));exact BK220.out) hb)
                  have n2_:=zM (blk_below (g:=gb234) (o:=.cells #[.int .i64 t231,.int .i64 t232] 40 (0,0)) (by (with_reducible repeat (first|refine bA ?_ _|refine bB ?_|refine bC ?_ _));exact BK234.out) hb)
                  have n3_:=zM (blk_below (g:=gb239) (o:=.cells #[.int .i64 (wrap64 (t236 + t231)),.int .i64 (wrap64 (t238 + t232))] 40 (0,0)) (by (with_reducible repeat (first|refine bA ?_ _|refine bB ?_|refine bC ?_ _));exact BK239.out) hb)
                  have n4_:=zM (blk_below (g:=gb241) (o:=.cells #[.int .i64 ((rd_T38 l1 (ji66)).f0),.int .i64 ((rd_T38 l1 (ji66)).f1)] 38 (0,0)) (by (with_reducible repeat (first|refine bA ?_ _|refine bB ?_|refine bC ?_ _));exact BK241.out) hb)
                  have n5_:=zM (blk_below (g:=gb246) (o:=.cells #[.int .i64 t243,.int .i64 t244] 40 (0,0)) (by (with_reducible repeat (first|refine bA ?_ _|refine bB ?_|refine bC ?_ _));exact BK246.out) hb)
                  have n6_:=zM (bG (by repeat (first|(with_reducible first|exact HB.out|apply bE|apply bD|apply bF|refine below_set ?_ GE219.out|refine below_set ?_ GE220.out|refine below_set ?_ GE234.out|refine below_set ?_ GE239.out|refine below_set ?_ GE241.out|refine below_set ?_ GE246.out)|exact HB.out)) hb)
                  clear BK219
                  clear BK220
                  clear BK234
                  clear BK239
                  clear BK241
                  clear BK246
                  clear HB
                  have BK219:=n0_
                  have BK220:=n1_
                  have BK234:=n2_
                  have BK239:=n3_
                  have BK241:=n4_
                  have BK246:=n5_
                  have HB:=n6_
                  clear n0_ n1_ n2_ n3_ n4_ n5_ n6_
                  (try clear hb)
                  (try clear hb2)
                  (try clear hk)
                  (try clear hi)
                  refine hK.out _ _ ⟨(blk_cell BK239.out 0).trans rfl,(blk_cell BK239.out 1).trans rfl,(blk_cell BK241.out 0).trans rfl,(blk_cell BK241.out 1).trans rfl,(blk_cell BK246.out 0).trans rfl,(blk_cell BK246.out 1).trans rfl⟩ (fun hHeld=>?_)
                  clear hK K
                  refine norm_ (a':=?_) ?_ ?_
                  rotate_left
                  ·show Act.put _ (some 126) _ = _
                   simp only [Act.put,zS,z0,z1,i64_w,i32_w]
                   rfl
                  refine pure_ (i:=7) (N:=some 129) (v:=?_) (a':=?_) #[true,true,true,true,true,true,true,true,false,true,true,true,true,false,true,true,false,false,false,false] rfl rfl (any_of HT_.out (by kernel_rfl)) (fun _ _ _ h=>h) (Or.inl ⟨by rfl,?_⟩) ?_ ?_
                  rotate_left
                  ·intro w'
                   go_simp
                   with_reducible rfl
                  rotate_left
                  ·simp only [Act.put,zS,z0,z1,i64_w,i32_w]
                   rfl
                  refine pure_ (i:=8) (N:=some 130) (v:=?_) (a':=?_) #[true,true,true,true,true,true,true,true,true,true,true,true,true,false,true,true,false,false,false,false] rfl rfl (any_of HT_.out (by kernel_rfl)) (fun _ _ _ h=>h) (Or.inl ⟨by rfl,?_⟩) ?_ ?_
                  rotate_left
                  ·intro w'
                   go_simp
                   with_reducible rfl
                  rotate_left
                  ·simp only [Act.put,zS,z0,z1,i64_w,i32_w]
                   rfl
                  refine one_ (i:=13) (N:=some 135) #[true,true,true,true,true,true,true,true,true,true,true,true,true,true,true,true,false,false,false,false] rfl rfl (one_of HT_.out (by kernel_rfl)) (by decide) (fun K hK=>?_)
                  refine goesW_ Try.func61 (by kernel_rfl) rfl #[.agg #[.int .i64 ((rd_T38 l1 (ji66)).f0),.int .i64 ((rd_T38 l1 (ji66)).f1)]] (by rfl) rfl rfl (by (try simp only [List.map_toArray,List.map_cons,List.map_nil]);first|done|(simp only [hji66];rfl)|rfl|(simp only [List.length_drop,List.length_take];rfl)) ?_
                  with_reducible refine (impl_countOf.calls ((rd_T38 l1 (ji66)).f0) ((rd_T38 l1 (ji66)).f1) t248 _ A94.out).mono ?_
                  rintro e w98 ⟨rfl,hb⟩
                  refine ⟨_,rfl,?_⟩
                  have n0_:=zM (blk_below (g:=gb219) (o:=.cells #[.int .i64 a0_0,.int .i64 a0_1] 27 (0,0)) (by (with_reducible repeat (first|refine bA ?_ _|refine bB ?_|refine bC ?_ _));exact BK219.out) hb)
                  have n1_:=zM (blk_below (g:=gb220) (o:=.cells #[.int .i64 x221000_69,.int .i64 x221001_69] 40 (0,0)) (by (with_reducible repeat (first|refine bA ?_ _|refine bB ?_|refine bC ?_ _));exact BK220.out) hb)
                  have n2_:=zM (blk_below (g:=gb234) (o:=.cells #[.int .i64 t231,.int .i64 t232] 40 (0,0)) (by (with_reducible repeat (first|refine bA ?_ _|refine bB ?_|refine bC ?_ _));exact BK234.out) hb)
                  have n3_:=zM (blk_below (g:=gb239) (o:=.cells #[.int .i64 (wrap64 (t236 + t231)),.int .i64 (wrap64 (t238 + t232))] 40 (0,0)) (by (with_reducible repeat (first|refine bA ?_ _|refine bB ?_|refine bC ?_ _));exact BK239.out) hb)
                  have n4_:=zM (blk_below (g:=gb241) (o:=.cells #[.int .i64 ((rd_T38 l1 (ji66)).f0),.int .i64 ((rd_T38 l1 (ji66)).f1)] 38 (0,0)) (by (with_reducible repeat (first|refine bA ?_ _|refine bB ?_|refine bC ?_ _));exact BK241.out) hb)
                  have n5_:=zM (blk_below (g:=gb246) (o:=.cells #[.int .i64 t243,.int .i64 t244] 40 (0,0)) (by (with_reducible repeat (first|refine bA ?_ _|refine bB ?_|refine bC ?_ _));exact BK246.out) hb)
                  have n6_:=zM (bG (by repeat (first|(with_reducible first|exact HB.out|apply bE|apply bD|apply bF|refine below_set ?_ GE219.out|refine below_set ?_ GE220.out|refine below_set ?_ GE234.out|refine below_set ?_ GE239.out|refine below_set ?_ GE241.out|refine below_set ?_ GE246.out)|exact HB.out)) hb)
                  clear BK219
                  clear BK220
                  clear BK234
                  clear BK239
                  clear BK241
                  clear BK246
                  clear HB
                  have BK219:=n0_
                  have BK220:=n1_
                  have BK234:=n2_
                  have BK239:=n3_
                  have BK241:=n4_
                  have BK246:=n5_
                  have HB:=n6_
                  clear n0_ n1_ n2_ n3_ n4_ n5_ n6_
                  (try clear hb)
                  (try clear hb2)
                  (try clear hk)
                  (try clear hi)
                  refine hK.out _ _ ⟨(blk_cell BK239.out 0).trans rfl,(blk_cell BK239.out 1).trans rfl,(blk_cell BK241.out 0).trans rfl,(blk_cell BK241.out 1).trans rfl,(blk_cell BK246.out 0).trans rfl,(blk_cell BK246.out 1).trans rfl⟩ (fun hHeld=>?_)
                  clear hK K
                  refine norm_ (a':=?_) ?_ ?_
                  rotate_left
                  ·show Act.put _ (some 135) _ = _
                   simp only [Act.put,zS,z0,z1,i64_w,i32_w]
                   rfl
                  refine pure_ (i:=16) (N:=some 138) (v:=?_) (a':=?_) #[true,true,true,true,true,true,true,true,true,true,true,true,true,true,true,true,true,false,false,false] rfl rfl (any_of HT_.out (by kernel_rfl)) (fun _ _ _ h=>h) (Or.inl ⟨by rfl,?_⟩) ?_ ?_
                  rotate_left
                  ·intro w'
                   go_simp
                   with_reducible rfl
                  rotate_left
                  ·simp only [Act.put,zS,z0,z1,i64_w,i32_w]
                   rfl
                  refine pure_ (i:=17) (N:=some 139) (v:=?_) (a':=?_) #[true,true,true,true,true,true,true,true,true,true,true,true,true,true,true,true,true,true,false,false] rfl rfl (any_of HT_.out (by kernel_rfl)) (fun _ _ _ h=>h) (Or.inl ⟨by rfl,?_⟩) ?_ ?_
                  rotate_left
                  ·intro w'
                   go_simp
                   with_reducible rfl
                  rotate_left
                  ·simp only [Act.put,zS,z0,z1,i64_w,i32_w]
                   rfl
                  refine pure_ (i:=18) (N:=some 140) (v:=?_) (a':=?_) #[true,true,true,true,true,true,true,true,true,true,true,true,true,true,true,true,true,true,true,false] rfl rfl (any_of HT_.out (by kernel_rfl)) (fun _ _ _ h=>h) (Or.inl ⟨by rfl,?_⟩) ?_ ?_
                  rotate_left
                  ·intro w'
                   go_simp
                   with_reducible rfl
                  rotate_left
                  ·simp only [Act.put,zS,z0,z1,i64_w,i32_w]
                   rfl
                  refine last_ (i:=19) (N:=none) #[true,true,true,true,true,true,true,true,true,true,true,true,true,true,true,true,true,true,true,true] rfl rfl (one_of HT_.out (by kernel_rfl)) (by decide) (fun K hK=>?_)
                  have hs99:w98.cell? ⟨gb239,0,none⟩ = some (.int .i64 (wrap64 (t236 + t231))):=(blk_cell BK239.out 0).trans rfl
                  have hfs99:=blk_frozen BK239.out 0
                  have hns99_0:=NB219_239.out
                  have hns99_1:=NB220_239.out
                  have hns99_2:=NB234_239.out
                  have hns99_4:=NB241_239.out
                  have hns99_5:=NB246_239.out
                  have hms99_0:=NB239_219.out
                  have hms99_1:=NB239_220.out
                  have hms99_2:=NB239_234.out
                  have hms99_4:=NB239_241.out
                  have hms99_5:=NB239_246.out
                  have hs100:w98.cell? ⟨gb239,1,none⟩ = some (.int .i64 (wrap64 (t238 + t232))):=(blk_cell BK239.out 1).trans rfl
                  have hfs100:=blk_frozen BK239.out 1
                  have hns100_0:=NB219_239.out
                  have hns100_1:=NB220_239.out
                  have hns100_2:=NB234_239.out
                  have hns100_4:=NB241_239.out
                  have hns100_5:=NB246_239.out
                  have hms100_0:=NB239_219.out
                  have hms100_1:=NB239_220.out
                  have hms100_2:=NB239_234.out
                  have hms100_4:=NB239_241.out
                  have hms100_5:=NB239_246.out
                  refine skip_ (w1:=?_) (by rfl) rfl ?_ ?_
                  rotate_left
                  ·go_simp
                   rfl
                  refine hK.out _ _ ?_
                  clear hK K
                  refine done_ (done_of HT_.out (by kernel_rfl)) ?_
                  try go_wp2
                  go_meet
                  case rel=>exact ⟨_,(x221000_69),(x221001_69),(ji93),(ji95),H',⟨by have:=HJ6.out;have:=HJ24.out;have:=HJ28.out;have:=HJ40.out;have:=HJ69.out;first|omega|exact Nat.le_refl _⟩,⟨by (with_reducible repeat (first|refine bA ?_ _|refine bB ?_|refine bC ?_ _));refine blk_far ?_ NB219_239.out _;(with_reducible repeat (first|refine bA ?_ _|refine bB ?_|refine bC ?_ _));refine blk_far ?_ NB219_239.out _;(with_reducible repeat (first|refine bA ?_ _|refine bB ?_|refine bC ?_ _));exact BK219.out⟩,⟨by (with_reducible repeat (first|refine bA ?_ _|refine bB ?_|refine bC ?_ _));refine blk_far ?_ NB220_239.out _;(with_reducible repeat (first|refine bA ?_ _|refine bB ?_|refine bC ?_ _));refine blk_far ?_ NB220_239.out _;(with_reducible repeat (first|refine bA ?_ _|refine bB ?_|refine bC ?_ _));exact BK220.out⟩,⟨by (with_reducible repeat (first|refine bA ?_ _|refine bB ?_|refine bC ?_ _));refine blk_far ?_ NB234_239.out _;(with_reducible repeat (first|refine bA ?_ _|refine bB ?_|refine bC ?_ _));refine blk_far ?_ NB234_239.out _;(with_reducible repeat (first|refine bA ?_ _|refine bB ?_|refine bC ?_ _));exact BK234.out⟩,⟨by (with_reducible repeat (first|refine bA ?_ _|refine bB ?_|refine bC ?_ _));refine bH (cs:=#[.int .i64 ji93,.int .i64 (wrap64 (t238 + t232))]) ?_ 1 _ rfl;(with_reducible repeat (first|refine bA ?_ _|refine bB ?_|refine bC ?_ _));refine bH (cs:=#[.int .i64 (wrap64 (t236 + t231)),.int .i64 (wrap64 (t238 + t232))]) ?_ 0 _ rfl;(with_reducible repeat (first|refine bA ?_ _|refine bB ?_|refine bC ?_ _));exact BK239.out⟩,⟨by repeat (first|(with_reducible first|exact HB.out|apply bE|apply bD|apply bF|refine below_set ?_ GE219.out|refine below_set ?_ GE220.out|refine below_set ?_ GE234.out|refine below_set ?_ GE239.out|refine below_set ?_ GE241.out|refine below_set ?_ GE246.out)|exact HB.out)⟩⟩
               ·rw [if_neg c67] at H
                exact absurd H (by simp)
              ·rw [if_neg c65] at H
               have c65b0:decide ((wrap64 (x14_28 + 1)) < (l1.length:Int)) = false:=decide_eq_false c65
               clear c65
               (first|rw [c65b0]|(simp only [i64_w,i32_w];rw [c65b0])|skip)
               have H':=zM H
               clear H
               go_wp2
               go_meet
               case rel=>exact ⟨_,(x221000_40),(x221001_40),(wrap64 (t236 + t231)),(wrap64 (t238 + t232)),H',⟨by have:=HJ6.out;have:=HJ24.out;have:=HJ28.out;have:=HJ40.out;first|omega|exact Nat.le_refl _⟩,⟨by (with_reducible repeat (first|refine bA ?_ _|refine bB ?_|refine bC ?_ _));refine blk_far ?_ NB219_239.out _;(with_reducible repeat (first|refine bA ?_ _|refine bB ?_|refine bC ?_ _));refine blk_far ?_ NB219_239.out _;(with_reducible repeat (first|refine bA ?_ _|refine bB ?_|refine bC ?_ _));exact BK219.out⟩,⟨by (with_reducible repeat (first|refine bA ?_ _|refine bB ?_|refine bC ?_ _));refine blk_far ?_ NB220_239.out _;(with_reducible repeat (first|refine bA ?_ _|refine bB ?_|refine bC ?_ _));refine blk_far ?_ NB220_239.out _;(with_reducible repeat (first|refine bA ?_ _|refine bB ?_|refine bC ?_ _));exact BK220.out⟩,⟨by (with_reducible repeat (first|refine bA ?_ _|refine bB ?_|refine bC ?_ _));refine blk_far ?_ NB234_239.out _;(with_reducible repeat (first|refine bA ?_ _|refine bB ?_|refine bC ?_ _));refine blk_far ?_ NB234_239.out _;(with_reducible repeat (first|refine bA ?_ _|refine bB ?_|refine bC ?_ _));exact BK234.out⟩,⟨by (with_reducible repeat (first|refine bA ?_ _|refine bB ?_|refine bC ?_ _));refine bH (cs:=#[.int .i64 (wrap64 (t236 + t231)),.int .i64 0]) ?_ 1 _ rfl;(with_reducible repeat (first|refine bA ?_ _|refine bB ?_|refine bC ?_ _));refine bH (cs:=#[.int .i64 0,.int .i64 0]) ?_ 0 _ rfl;(with_reducible repeat (first|refine bA ?_ _|refine bB ?_|refine bC ?_ _));exact BK239.out⟩,⟨by repeat (first|(with_reducible first|exact HB.out|apply bE|apply bD|apply bF|refine below_set ?_ GE219.out|refine below_set ?_ GE220.out|refine below_set ?_ GE234.out|refine below_set ?_ GE239.out)|exact HB.out)⟩⟩
             case rest =>
              clear HC57
              try clear p2
              try clear c6
              try clear p6
              try clear c8
              try clear c9
              try clear c60
              try clear c61
              try clear c62
              try clear p64
              try clear c65
              try clear c65b0
              try clear c67
              try clear c85
              try clear c86
              try clear c87
              try clear c88
              try clear c89
              try clear c90
              try clear hcz91_0
              try clear hcz91_1
              try clear hfz91_0
              try clear hfz91_1
              try clear p2
              try clear p6
              try clear p64
              obtain ⟨kq,x221000_56,x221001_56,x240000_56,x240001_56,HA,HJ56,BK219,BK220,BK234,BK239,HB⟩:=hcut
              cases kq with
              | zero=>exact absurd HA.out (by simp [impl_between_60_61_62.j6])
              | succ kj56 =>
               have H:=HA.out
               clear HA
               simp only [impl_between_60_61_62.j6] at H
               by_cases c101:x240000_56 > x240001_56
               ·rw [if_pos c101] at H
                have c101b0:decide (x240001_56 < x240000_56) = true:=decide_eq_true c101
                clear c101
                simp only [zI,zJ] at H
                obtain ⟨rfl,rfl,rfl⟩:=H
                have hnb102:=NB239_219.out
                have hnc102:=NB219_239.out
                have hnb103:=NB239_220.out
                have hnc103:=NB220_239.out
                have hnb104:=NB239_234.out
                have hnc104:=NB234_239.out
                have hcz105_0:wc.cell? ⟨gb239,0,none⟩ = some (.int .i64 x240000_56):=(blk_cell BK239.out 0).trans rfl
                have hcz105_1:wc.cell? ⟨gb239,1,none⟩ = some (.int .i64 x240001_56):=(blk_cell BK239.out 1).trans rfl
                have hfz105_0:=blk_frozen BK239.out 0
                have hfz105_1:=blk_frozen BK239.out 1
                have hnb106:=NB220_219.out
                have hnc106:=NB219_220.out
                have hnb107:=NB220_234.out
                have hnc107:=NB234_220.out
                have hcz108_0:wc.cell? ⟨gb220,0,none⟩ = some (.int .i64 x221000_56):=(blk_cell BK220.out 0).trans rfl
                have hcz108_1:wc.cell? ⟨gb220,1,none⟩ = some (.int .i64 x221001_56):=(blk_cell BK220.out 1).trans rfl
                have hfz108_0:=blk_frozen BK220.out 0
                have hfz108_1:=blk_frozen BK220.out 1
                go_wp2
                refine bodyPost_ret (results_ct rfl _ _ gb220 40 #[.int .i64 0,.int .i64 0] (0,0) _ rfl (by (with_reducible repeat (first|refine bA ?_ _|refine bB ?_|refine bC ?_ _));refine bH (cs:=#[.int .i64 0,.int .i64 x221001_56]) ?_ 1 _ rfl;(with_reducible repeat (first|refine bA ?_ _|refine bB ?_|refine bC ?_ _));refine bH (cs:=#[.int .i64 x221000_56,.int .i64 x221001_56]) ?_ 0 _ rfl;(with_reducible repeat (first|refine bA ?_ _|refine bB ?_|refine bC ?_ _));exact BK220.out) Try.underlying40 rfl (by kernel_rfl)) rfl ?_
                exact ⟨by first|rfl|(simp [*,errW_none,errW_some] <;> rfl),by repeat (first|(with_reducible first|exact HB.out|apply bE|apply bD|apply bF|refine below_set ?_ GE219.out|refine below_set ?_ GE220.out|refine below_set ?_ GE234.out|refine below_set ?_ GE239.out)|exact HB.out)⟩
               ·rw [if_neg c101] at H
                have c101b0:decide (x240001_56 < x240000_56) = false:=decide_eq_false c101
                clear c101
                simp only [zI,zJ] at H
                obtain ⟨rfl,rfl,rfl⟩:=H
                have hnb109:=NB239_219.out
                have hnc109:=NB219_239.out
                have hnb110:=NB239_220.out
                have hnc110:=NB220_239.out
                have hnb111:=NB239_234.out
                have hnc111:=NB234_239.out
                have hcz112_0:wc.cell? ⟨gb239,0,none⟩ = some (.int .i64 x240000_56):=(blk_cell BK239.out 0).trans rfl
                have hcz112_1:wc.cell? ⟨gb239,1,none⟩ = some (.int .i64 x240001_56):=(blk_cell BK239.out 1).trans rfl
                have hfz112_0:=blk_frozen BK239.out 0
                have hfz112_1:=blk_frozen BK239.out 1
                have hnb113:=NB220_219.out
                have hnc113:=NB219_220.out
                have hnb114:=NB220_234.out
                have hnc114:=NB234_220.out
                have hcz115_0:wc.cell? ⟨gb220,0,none⟩ = some (.int .i64 x221000_56):=(blk_cell BK220.out 0).trans rfl
                have hcz115_1:wc.cell? ⟨gb220,1,none⟩ = some (.int .i64 x221001_56):=(blk_cell BK220.out 1).trans rfl
                have hfz115_0:=blk_frozen BK220.out 0
                have hfz115_1:=blk_frozen BK220.out 1
                go_wp2
                refine bodyPost_ret (results_ct rfl _ _ gb220 40 #[.int .i64 x240000_56,.int .i64 x240001_56] (0,0) _ rfl (by (with_reducible repeat (first|refine bA ?_ _|refine bB ?_|refine bC ?_ _));refine bH (cs:=#[.int .i64 x240000_56,.int .i64 x221001_56]) ?_ 1 _ rfl;(with_reducible repeat (first|refine bA ?_ _|refine bB ?_|refine bC ?_ _));refine bH (cs:=#[.int .i64 x221000_56,.int .i64 x221001_56]) ?_ 0 _ rfl;(with_reducible repeat (first|refine bA ?_ _|refine bB ?_|refine bC ?_ _));exact BK220.out) Try.underlying40 rfl (by kernel_rfl)) rfl ?_
                exact ⟨by first|rfl|(simp [*,errW_none,errW_some] <;> rfl),by repeat (first|(with_reducible first|exact HB.out|apply bE|apply bD|apply bF|refine below_set ?_ GE219.out|refine below_set ?_ GE220.out|refine below_set ?_ GE234.out|refine below_set ?_ GE239.out)|exact HB.out)⟩
            ·rw [if_neg c54] at H
             exact absurd H (by simp)
           ·rw [if_neg c53] at H
            exact absurd H (by simp)
        ·rw [if_neg c38] at H
         exact absurd H (by simp)
       ·rw [if_neg c37] at H
        exact absurd H (by simp)

end Go.Proofs.Ytlikojcfjamgpaa.XFnExactCountWhen
