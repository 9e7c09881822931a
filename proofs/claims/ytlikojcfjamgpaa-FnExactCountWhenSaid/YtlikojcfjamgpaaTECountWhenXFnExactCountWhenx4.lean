-- Written by a program of this claim's session (wip/xprint.py), out of the translation.
import Derived.Test.YtlikojcfjamgpaaTECountWhenXFnExactCountWhenx0
import Derived.Test.YtlikojcfjamgpaaTECountWhenXFnExactCountWhenx2
import Derived.Test.YtlikojcfjamgpaaTECountWhenXFnExactCountWhenx3
namespace Go.Proofs.Ytlikojcfjamgpaa.XFnExactCountWhen
open Go.RowKit Go.Proofs.YtlikojcfjamgpaaW.PrintWords Go.Proofs.YtlikojcfjamgpaaW.PrintLast Go.Proofs.YtlikojcfjamgpaaW.PrintMore
open Go.Proofs.YtlikojcfjamgpaaW.PrintWords renaming blk_drewN → bA, blk_drew → bB, blk_alloc → bC, pw_below_drewN → bD, below_alloc → bE, below_drew1 → bF, Aside0.mk → zM, below_step → bG, blk_put → bH
open List renaming setIfInBounds_toArray → zS, set_cons_zero → z0, set_cons_succ → z1
attribute [local go_sem] max2_int min2_int max_two min_two max_three min_three max_four min_four
set_option linter.unusedVariables false
set_option linter.unusedSimpArgs false
set_option maxHeartbeats 8000000
set_option maxRecDepth 100000

/-! ### spec_CountWhen: function 25 -/
mutual
def spec_CountWhen.j0:Nat → List (S38) → Int → Bool → Int → Int → Option (Int × Int × Bool)
 | 0,_,_,_,_,_=>none
 | k + 1,x1,x2,x43,x159000,x159001=>if x43 = true then (some (0,0,false)) else (spec_CountWhen.l0 k x1 x2 0 0 x159000 x159001)
def spec_CountWhen.l0:Nat → List (S38) → Int → Int → Int → Int → Int → Option (Int × Int × Bool)
 | 0,_,_,_,_,_,_=>none
 | k + 1,x1,x2,x8,x9,x159000,x159001=>if x9 < (x1.length:Int) then (if 0 ≤ x9 then (if ((rd_T38 x1 x9).f0) ≤ x2 then (spec_CountWhen.l0 k x1 x2 x9 (wrap64 (x9 + 1)) x159000 x159001) else (spec_CountWhen.l0 k x1 x2 x8 (wrap64 (x9 + 1)) x159000 x159001)) else (none)) else (if 0 ≤ x8 then (if x8 < (x1.length:Int) then ((spec_LeastCount.f k x159000 x159001 (wrap64 (x2 - ((rd_T38 x1 x8).f0)))).bind fun bt165=>((spec_MostCount.f k x159000 x159001 (wrap64 (x2 - ((rd_T38 x1 x8).f0)))).bind fun bt168=>(if bt165.2 = true then (spec_CountWhen.j2 k x1 x2 x8 bt165.1 bt168.1 (!bt168.2) x159000 x159001) else (spec_CountWhen.j2 k x1 x2 x8 bt165.1 bt168.1 true x159000 x159001)))) else (none)) else (none))
def spec_CountWhen.j2:Nat → List (S38) → Int → Int → Int → Int → Bool → Int → Int → Option (Int × Int × Bool)
 | 0,_,_,_,_,_,_,_,_=>none
 | k + 1,x1,x2,x8,x10,x12,x88,x159000,x159001=>if x88 = true then (some (0,0,false)) else (if 0 ≤ x8 then (if x8 < (x1.length:Int) then (if (wrap64 (x8 + 1)) < (x1.length:Int) then (if 0 ≤ (wrap64 (x8 + 1)) then ((spec_LeastCount.f k x159000 x159001 (wrap64 (((rd_T38 x1 (wrap64 (x8 + 1))).f0) - x2))).bind fun bt174=>((spec_MostCount.f k x159000 x159001 (wrap64 (((rd_T38 x1 (wrap64 (x8 + 1))).f0) - x2))).bind fun bt176=>(if bt174.2 = true then (spec_CountWhen.j3 k (wrap64 (((rd_T38 x1 x8).f1) + x10)) (wrap64 (((rd_T38 x1 x8).f1) + x12)) bt174.1 bt176.1 (!bt176.2) ((rd_T38 x1 (wrap64 (x8 + 1))).f0) ((rd_T38 x1 (wrap64 (x8 + 1))).f1)) else (spec_CountWhen.j3 k (wrap64 (((rd_T38 x1 x8).f1) + x10)) (wrap64 (((rd_T38 x1 x8).f1) + x12)) bt174.1 bt176.1 true ((rd_T38 x1 (wrap64 (x8 + 1))).f0) ((rd_T38 x1 (wrap64 (x8 + 1))).f1))))) else (none)) else (if (wrap64 (((rd_T38 x1 x8).f1) + x10)) > (wrap64 (((rd_T38 x1 x8).f1) + x12)) then (some (0,0,false)) else (some (wrap64 (((rd_T38 x1 x8).f1) + x10),wrap64 (((rd_T38 x1 x8).f1) + x12),true)))) else (none)) else (none))
def spec_CountWhen.j3:Nat → Int → Int → Int → Int → Bool → Int → Int → Option (Int × Int × Bool)
 | 0,_,_,_,_,_,_,_=>none
 | k + 1,x14,x15,x17,x19,x137,x174000,x174001=>if x137 = true then (some (0,0,false)) else ((spec_l1Max.f x14 (wrap64 (x174001 - x19))).bind fun t178=>((spec_l1Min.f x15 (wrap64 (x174001 - x17))).bind fun t179=>(if t178 > t179 then (some (0,0,false)) else (some (t178,t179,true)))))
end
def spec_CountWhen.f (k:Nat) (a0_0:Int) (a0_1:Int) (l1:List (S38)) (a2:Int):Option (Int × Int × Bool):=(spec_MarksOk.f k a0_0 a0_1 l1).bind fun t160=>(if t160 = true then (if 0 < (l1.length:Int) then (if a2 < ((rd_T38 l1 0).f0) then (spec_CountWhen.j0 k l1 a2 true a0_0 a0_1) else (if 0 ≤ (wrap64 ((l1.length:Int) - 1)) then (if (wrap64 ((l1.length:Int) - 1)) < (l1.length:Int) then (spec_CountWhen.j0 k l1 a2 (decide (a2 > ((rd_T38 l1 (wrap64 ((l1.length:Int) - 1))).f0))) a0_0 a0_1) else (none)) else (none))) else (none)) else (spec_CountWhen.j0 k l1 a2 true a0_0 a0_1))
theorem spec_CountWhen.mono_l:∀ k,(∀ y0 y1 y2 y3 y4,LeO (spec_CountWhen.j0 k y0 y1 y2 y3 y4) (spec_CountWhen.j0 (k + 1) y0 y1 y2 y3 y4)) ∧ (∀ y0 y1 y2 y3 y4 y5,LeO (spec_CountWhen.l0 k y0 y1 y2 y3 y4 y5) (spec_CountWhen.l0 (k + 1) y0 y1 y2 y3 y4 y5)) ∧ (∀ y0 y1 y2 y3 y4 y5 y6 y7,LeO (spec_CountWhen.j2 k y0 y1 y2 y3 y4 y5 y6 y7) (spec_CountWhen.j2 (k + 1) y0 y1 y2 y3 y4 y5 y6 y7)) ∧ (∀ y0 y1 y2 y3 y4 y5 y6,LeO (spec_CountWhen.j3 k y0 y1 y2 y3 y4 y5 y6) (spec_CountWhen.j3 (k + 1) y0 y1 y2 y3 y4 y5 y6))
 | 0=>⟨fun _ _ _ _ _ r h=>by simp [spec_CountWhen.j0] at h,fun _ _ _ _ _ _ r h=>by simp [spec_CountWhen.l0] at h,fun _ _ _ _ _ _ _ _ r h=>by simp [spec_CountWhen.j2] at h,fun _ _ _ _ _ _ _ r h=>by simp [spec_CountWhen.j3] at h⟩
 | k + 1=>by
  obtain ⟨ih0,ih1,ih2,ih3⟩:=spec_CountWhen.mono_l k
  refine ⟨?_,?_,?_,?_⟩
  ·intro y0 y1 y2 y3 y4
   unfold spec_CountWhen.j0
   repeat' first
   | (with_reducible exact ih0 _ _ _ _ _)
   | (with_reducible exact ih1 _ _ _ _ _ _)
   | (with_reducible exact ih2 _ _ _ _ _ _ _ _)
   | (with_reducible exact ih3 _ _ _ _ _ _ _)
   | (with_reducible exact spec_LeastCount.mono _ _ _ _)
   | (with_reducible exact spec_MarksOk.mono _ _ _ _)
   | (with_reducible exact spec_MostCount.mono _ _ _ _)
   | (with_reducible exact LeO.refl _)
   | (with_reducible exact LeO.none _)
   | (with_reducible refine LeO.ite ?_ ?_)
   | (with_reducible refine LeO.bind ?_ (fun _=>?_))
   | exact ih0 _ _ _ _ _
   | exact ih1 _ _ _ _ _ _
   | exact ih2 _ _ _ _ _ _ _ _
   | exact ih3 _ _ _ _ _ _ _
   | exact spec_LeastCount.mono _ _ _ _
   | exact spec_MarksOk.mono _ _ _ _
   | exact spec_MostCount.mono _ _ _ _
   | exact LeO.none _
   | refine LeO.ite ?_ ?_
   | refine LeO.bind ?_ (fun _=>?_)
  ·intro y0 y1 y2 y3 y4 y5
   unfold spec_CountWhen.l0
   repeat' first
   | (with_reducible exact ih0 _ _ _ _ _)
   | (with_reducible exact ih1 _ _ _ _ _ _)
   | (with_reducible exact ih2 _ _ _ _ _ _ _ _)
   | (with_reducible exact ih3 _ _ _ _ _ _ _)
   | (with_reducible exact spec_LeastCount.mono _ _ _ _)
   | (with_reducible exact spec_MarksOk.mono _ _ _ _)
   | (with_reducible exact spec_MostCount.mono _ _ _ _)
   | (with_reducible exact LeO.refl _)
   | (with_reducible exact LeO.none _)
   | (with_reducible refine LeO.ite ?_ ?_)
   | (with_reducible refine LeO.bind ?_ (fun _=>?_))
   | exact ih0 _ _ _ _ _
   | exact ih1 _ _ _ _ _ _
   | exact ih2 _ _ _ _ _ _ _ _
   | exact ih3 _ _ _ _ _ _ _
   | exact spec_LeastCount.mono _ _ _ _
   | exact spec_MarksOk.mono _ _ _ _
   | exact spec_MostCount.mono _ _ _ _
   | exact LeO.none _
   | refine LeO.ite ?_ ?_
   | refine LeO.bind ?_ (fun _=>?_)
  ·intro y0 y1 y2 y3 y4 y5 y6 y7
   unfold spec_CountWhen.j2
   repeat' first
   | (with_reducible exact ih0 _ _ _ _ _)
   | (with_reducible exact ih1 _ _ _ _ _ _)
   | (with_reducible exact ih2 _ _ _ _ _ _ _ _)
   | (with_reducible exact ih3 _ _ _ _ _ _ _)
   | (with_reducible exact spec_LeastCount.mono _ _ _ _)
   | (with_reducible exact spec_MarksOk.mono _ _ _ _)
   | (with_reducible exact spec_MostCount.mono _ _ _ _)
   | (with_reducible exact LeO.refl _)
   | (with_reducible exact LeO.none _)
   | (with_reducible refine LeO.ite ?_ ?_)
   | (with_reducible refine LeO.bind ?_ (fun _=>?_))
   | exact ih0 _ _ _ _ _
   | exact ih1 _ _ _ _ _ _
   | exact ih2 _ _ _ _ _ _ _ _
   | exact ih3 _ _ _ _ _ _ _
   | exact spec_LeastCount.mono _ _ _ _
   | exact spec_MarksOk.mono _ _ _ _
   | exact spec_MostCount.mono _ _ _ _
   | exact LeO.none _
   | refine LeO.ite ?_ ?_
   | refine LeO.bind ?_ (fun _=>?_)
  ·intro y0 y1 y2 y3 y4 y5 y6
   unfold spec_CountWhen.j3
   repeat' first
   | (with_reducible exact ih0 _ _ _ _ _)
   | (with_reducible exact ih1 _ _ _ _ _ _)
   | (with_reducible exact ih2 _ _ _ _ _ _ _ _)
   | (with_reducible exact ih3 _ _ _ _ _ _ _)
   | (with_reducible exact spec_LeastCount.mono _ _ _ _)
   | (with_reducible exact spec_MarksOk.mono _ _ _ _)
   | (with_reducible exact spec_MostCount.mono _ _ _ _)
   | (with_reducible exact LeO.refl _)
   | (with_reducible exact LeO.none _)
   | (with_reducible refine LeO.ite ?_ ?_)
   | (with_reducible refine LeO.bind ?_ (fun _=>?_))
   | exact ih0 _ _ _ _ _
   | exact ih1 _ _ _ _ _ _
   | exact ih2 _ _ _ _ _ _ _ _
   | exact ih3 _ _ _ _ _ _ _
   | exact spec_LeastCount.mono _ _ _ _
   | exact spec_MarksOk.mono _ _ _ _
   | exact spec_MostCount.mono _ _ _ _
   | exact LeO.none _
   | refine LeO.ite ?_ ?_
   | refine LeO.bind ?_ (fun _=>?_)
theorem spec_CountWhen.mono:∀ a0 a1 a2 a3 k,LeO (spec_CountWhen.f k a0 a1 a2 a3) (spec_CountWhen.f (k + 1) a0 a1 a2 a3):=by
 intro a0 a1 a2 a3 k
 obtain ⟨ih0,ih1,ih2,ih3⟩:=spec_CountWhen.mono_l k
 unfold spec_CountWhen.f
 repeat' first
   | (with_reducible exact ih0 _ _ _ _ _)
   | (with_reducible exact ih1 _ _ _ _ _ _)
   | (with_reducible exact ih2 _ _ _ _ _ _ _ _)
   | (with_reducible exact ih3 _ _ _ _ _ _ _)
   | (with_reducible exact spec_LeastCount.mono _ _ _ _)
   | (with_reducible exact spec_MarksOk.mono _ _ _ _)
   | (with_reducible exact spec_MostCount.mono _ _ _ _)
   | (with_reducible exact LeO.refl _)
   | (with_reducible exact LeO.none _)
   | (with_reducible refine LeO.ite ?_ ?_)
   | (with_reducible refine LeO.bind ?_ (fun _=>?_))
   | exact ih0 _ _ _ _ _
   | exact ih1 _ _ _ _ _ _
   | exact ih2 _ _ _ _ _ _ _ _
   | exact ih3 _ _ _ _ _ _ _
   | exact spec_LeastCount.mono _ _ _ _
   | exact spec_MarksOk.mono _ _ _ _
   | exact spec_MostCount.mono _ _ _ _
   | exact LeO.none _
   | refine LeO.ite ?_ ?_
   | refine LeO.bind ?_ (fun _=>?_)
def spec_CountWhen.T9:Bool × List (List Nat × List Nat):=(true,[([],[]),([],[]),([],[]),([],[]),([2,3],[2,3]),([4],[4]),([5],[5]),([1,6],[1,6]),([0,7],[0,7]),([8],[8]),([9],[9]),([9],[9]),([10,8,0,1,2,3,4,5,6,7,8,9,10],[10]),([11,12,0,1,2,3,4,5,6,7,8,9,10,11,12],[11])])
def spec_CountWhen.B9:List Nat:=[0,0,0,0,12,28,60,126,255,511,1023,1023,2047,8191]
theorem spec_CountWhen.tab9:rtab .any (opsOf Try.f25 9) = spec_CountWhen.T9:=by kernel_rfl
theorem spec_CountWhen.bits9:waitsOk spec_CountWhen.T9.2 spec_CountWhen.B9 = true:=by kernel_rfl
def spec_CountWhen.T10:Bool × List (List Nat × List Nat):=(true,[([],[]),([],[]),([],[]),([],[]),([2,3],[2,3]),([4],[4]),([5],[5]),([1,6],[1,6]),([0,7],[0,7]),([8],[8]),([9],[9]),([9],[9]),([10,8,0,1,2,3,4,5,6,7,8,9,10],[10]),([11,12,0,1,2,3,4,5,6,7,8,9,10,11,12],[11])])
def spec_CountWhen.B10:List Nat:=[0,0,0,0,12,28,60,126,255,511,1023,1023,2047,8191]
theorem spec_CountWhen.tab10:rtab .any (opsOf Try.f25 10) = spec_CountWhen.T10:=by kernel_rfl
theorem spec_CountWhen.bits10:waitsOk spec_CountWhen.T10.2 spec_CountWhen.B10 = true:=by kernel_rfl
def spec_CountWhen.T13:Bool × List (List Nat × List Nat):=(true,[([],[]),([],[]),([0,1],[0,1]),([2],[2]),([3],[3]),([],[]),([4,5],[4,5]),([],[]),([],[]),([7,8],[7,8]),([9],[9]),([10],[10]),([],[]),([11,12],[11,12]),([6,0,1,2,3,4,5,6],[6]),([13,14,0,1,2,3,4,5,6,7,8,9,10,11,12,13,14],[13])])
def spec_CountWhen.B13:List Nat:=[0,0,3,7,15,0,63,0,0,384,896,1920,0,8064,127,32767]
theorem spec_CountWhen.tab13:rtab .any (opsOf Try.f25 13) = spec_CountWhen.T13:=by kernel_rfl
theorem spec_CountWhen.bits13:waitsOk spec_CountWhen.T13.2 spec_CountWhen.B13 = true:=by kernel_rfl
def spec_CountWhen.T20:Bool × List (List Nat × List Nat):=(true,[([],[]),([],[]),([1],[1]),([],[]),([2,3],[2,3]),([0,4],[0,4]),([],[]),([],[]),([7],[7]),([],[]),([8,9],[8,9]),([6,10,5],[6,10]),([5,11,0,1,2,3,4,5],[0,5]),([11,12,0,1,2,3,4,5,6,7,8,9,10,11,12],[6,11])])
def spec_CountWhen.B20:List Nat:=[0,0,2,0,14,31,0,0,128,0,896,2047,4095,8191]
theorem spec_CountWhen.tab20:rtab .any (opsOf Try.f25 20) = spec_CountWhen.T20:=by kernel_rfl
theorem spec_CountWhen.bits20:waitsOk spec_CountWhen.T20.2 spec_CountWhen.B20 = true:=by kernel_rfl
theorem spec_CountWhen.calls (k:Nat) (a0_0:Int) (a0_1:Int) (A1:Option Addr) (c1:Nat) (l1:List (S38)) (a2:Int) (r1:Int) (r2:Int) (r3:Bool) (w:World) (hr1:Kd.C k38 w A1 l1.length l1) (hc1:l1.length ≤ c1) (h:spec_CountWhen.f k a0_0 a0_1 l1 a2 = some (r1,r2,r3)) :
  Calls Try.prog 25 #[.agg #[.int .i64 a0_0,.int .i64 a0_1],.slice A1 l1.length c1,.int .i64 a2] w fun e w'=>e = .returned (.tuple #[.agg #[.int .i64 r1,.int .i64 r2],.bool r3]) ∧ Below w.heap.size w w':=by
 have hu27:=Try.underlying27
 have hu40:=Try.underlying40
 have hu38:=Try.underlying38
 have HR1:=zM hr1
 have HC1:=zM hc1
 clear hr1 hc1
 have HB:=zM (Below.refl w.heap.size w)
 have H:((spec_MarksOk.f k a0_0 a0_1 l1).bind fun t160=>(if t160 = true then (if 0 < (l1.length:Int) then (if a2 < ((rd_T38 l1 0).f0) then (spec_CountWhen.j0 k l1 a2 true a0_0 a0_1) else (if 0 ≤ (wrap64 ((l1.length:Int) - 1)) then (if (wrap64 ((l1.length:Int) - 1)) < (l1.length:Int) then (spec_CountWhen.j0 k l1 a2 (decide (a2 > ((rd_T38 l1 (wrap64 ((l1.length:Int) - 1))).f0))) a0_0 a0_1) else (none)) else (none))) else (none)) else (spec_CountWhen.j0 k l1 a2 true a0_0 a0_1))) = some (r1,r2,r3):=h
 clear h
 have HC4:=zM H
 clear H
 go_enter Try.func25,Try.ntmps25
 go_upto_region 1 with (first|((with_reducible refine gate_dst (N:=3) rfl ?_);(try (refine gate_guard (by rfl) ?_;dsimp only));refine box_event ?hg (N:=3) ?hd (cs:=#[.int .i64 a0_0,.int .i64 a0_1]) (t:=27) ?hr ?_;(case hd=>rfl);(case hg=>rfl);(case hr=>first|(go_simp;done)|(go_simp;rfl));intro gb158 hg w5 hbox hb;have n0_:=zM (bG (by repeat (first|(with_reducible first|exact HB.out|apply bE|apply bD|apply bF)|exact HB.out)) hb);have n1_:=zM (hbox);have n2_:=zM ((by rw [hg];exact (below_size (by repeat (first|(with_reducible first|exact HB.out|apply bE|apply bD|apply bF)|exact HB.out))):w.heap.size ≤ gb158));have n3_:=zM ((by rw [hg];exact (below_size (by repeat (first|(with_reducible first|exact HB.out|apply bE|apply bD|apply bF)|exact HB.out))):w.heap.size ≤ gb158));clear HB;have HB:=n0_;have BK158:=n1_;have GW158:=n2_;have GE158:=n3_;clear n0_ n1_ n2_ n3_;clear hb hbox hg)|((with_reducible refine gate_dst (N:=6) rfl ?_);(try (refine gate_guard (by rfl) ?_;dsimp only));refine box_event ?hg (N:=6) ?hd (cs:=#[.int .i64 0,.int .i64 0]) (t:=40) ?hr ?_;(case hd=>rfl);(case hg=>rfl);(case hr=>first|(go_simp;done)|(go_simp;rfl));intro gb159 hg w6 hbox hb;have n0_:=zM (blk_below (g:=gb158) (o:=.cells #[.int .i64 a0_0,.int .i64 a0_1] 27 (0,0)) (by (with_reducible repeat (first|refine bA ?_ _|refine bB ?_|refine bC ?_ _));exact BK158.out) hb);have n1_:=zM (bG (by repeat (first|(with_reducible first|exact HB.out|apply bE|apply bD|apply bF|refine below_set ?_ GE158.out)|exact HB.out)) hb);have n2_:=zM (hbox);have n3_:=zM ((by rw [hg];exact (below_size (by repeat (first|(with_reducible first|exact HB.out|apply bE|apply bD|apply bF|refine below_set ?_ GE158.out)|exact HB.out))):w.heap.size ≤ gb159));have n4_:=zM ((by rw [hg];exact (below_size (by repeat (first|(with_reducible first|exact HB.out|apply bE|apply bD|apply bF|refine below_set ?_ GE158.out)|exact HB.out))):w.heap.size ≤ gb159));have n5_:=zM ((by rw [hg];exact Nat.ne_of_lt (blk_lt (g:=gb158) (o:=.cells #[.int .i64 a0_0,.int .i64 a0_1] 27 (0,0)) (by (with_reducible repeat (first|refine bA ?_ _|refine bB ?_|refine bC ?_ _));exact BK158.out)):gb158 ≠ gb159));have n6_:=zM ((by rw [hg];exact Nat.ne_of_gt (blk_lt (g:=gb158) (o:=.cells #[.int .i64 a0_0,.int .i64 a0_1] 27 (0,0)) (by (with_reducible repeat (first|refine bA ?_ _|refine bB ?_|refine bC ?_ _));exact BK158.out)):gb159 ≠ gb158));clear BK158;clear HB;have BK158:=n0_;have HB:=n1_;have BK159:=n2_;have GW159:=n3_;have GE159:=n4_;have NB158_159:=n5_;have NB159_158:=n6_;clear n0_ n1_ n2_ n3_ n4_ n5_ n6_;clear hb hbox hg))
 (try simp only [Act.put,zS,z0,z1])
 go_cut [43] (fun v43 wc=>∃ (kq:Nat) (x43_3:Bool),v43 = .bool x43_3 ∧ Aside0 (spec_CountWhen.j0 kq l1 a2 x43_3 a0_0 a0_1 = some (r1,r2,r3)) ∧ Aside0 (kq ≤ k) ∧ Aside0 (wc.heap[gb158]? = some (.cells #[.int .i64 a0_0,.int .i64 a0_1] 27 (0,0))) ∧ Aside0 (wc.heap[gb159]? = some (.cells #[.int .i64 0,.int .i64 0] 40 (0,0))) ∧ Aside0 (Below w.heap.size w wc))
 case first =>
  have H:=HC4.out
  clear HC4
  replace H:=zO H
  obtain ⟨t160,A70,H⟩:=H
  replace H:(if t160 = true then (if 0 < (l1.length:Int) then (if a2 < ((rd_T38 l1 0).f0) then (spec_CountWhen.j0 k l1 a2 true a0_0 a0_1) else (if 0 ≤ (wrap64 ((l1.length:Int) - 1)) then (if (wrap64 ((l1.length:Int) - 1)) < (l1.length:Int) then (spec_CountWhen.j0 k l1 a2 (decide (a2 > ((rd_T38 l1 (wrap64 ((l1.length:Int) - 1))).f0))) a0_0 a0_1) else (none)) else (none))) else (none)) else (spec_CountWhen.j0 k l1 a2 true a0_0 a0_1)) = some (r1,r2,r3):=H
  have A7:=zM A70
  clear A70
  by_cases c8:t160 = true
  ·subst c8
   have H1:(if 0 < (l1.length:Int) then (if a2 < ((rd_T38 l1 0).f0) then (spec_CountWhen.j0 k l1 a2 true a0_0 a0_1) else (if 0 ≤ (wrap64 ((l1.length:Int) - 1)) then (if (wrap64 ((l1.length:Int) - 1)) < (l1.length:Int) then (spec_CountWhen.j0 k l1 a2 (decide (a2 > ((rd_T38 l1 (wrap64 ((l1.length:Int) - 1))).f0))) a0_0 a0_1) else (none)) else (none))) else (none)) = some (r1,r2,r3):=by rw [if_pos rfl] at H;exact H
   clear H
   have H:=H1
   clear H1
   by_cases c9:0 < (l1.length:Int)
   ·rw [if_pos c9] at H
    have c9b0:decide (0 < (l1.length:Int)) = true:=decide_eq_true c9
    have c9b1:decide (0 < l1.length) = true:=decide_eq_true (by omega)
    clear c9
    (first|rw [c9b0]|(simp only [i64_w,i32_w];rw [c9b0])|skip)
    by_cases c10:a2 < ((rd_T38 l1 0).f0)
    ·rw [if_pos c10] at H
     have c10b0:decide (a2 < ((rd_T38 l1 0).f0)) = true:=decide_eq_true c10
     clear c10
     have H':=zM H
     clear H
     have hnb11:=NB158_159.out
     have hnc11:=NB159_158.out
     have hcz12_0:w6.cell? ⟨gb158,0,none⟩ = some (.int .i64 a0_0):=(blk_cell BK158.out 0).trans rfl
     have hcz12_1:w6.cell? ⟨gb158,1,none⟩ = some (.int .i64 a0_1):=(blk_cell BK158.out 1).trans rfl
     have hfz12_0:=blk_frozen BK158.out 0
     have hfz12_1:=blk_frozen BK158.out 1
     go_wp2_with (first|((with_reducible refine gate_callee (f:=13) rfl ?_);refine goesL_ (some 23) rfl rfl Try.func13 (by kernel_rfl) rfl #[.agg #[.int .i64 a0_0,.int .i64 a0_1],.slice A1 l1.length c1] rfl (by (try simp only [List.map_toArray,List.map_cons,List.map_nil]);first|done|rfl) ?_;(with_reducible refine (spec_MarksOk.calls k a0_0 a0_1 _ _ l1 true _ ?side1 ?side2 A7.out).mono ?_);(case side1=>repeat (first|exact (Kd.C_below HR1.out HB.out)|(with_reducible refine Kd.C_alloc ?_ _)|(with_reducible refine Kd.C_drewN ?_ _)|(with_reducible refine Kd.C_drew ?_)));(case side2=>exact HC1.out);rintro e w13 ⟨rfl,hb⟩;refine ⟨_,rfl,?_⟩;have n0_:=zM (blk_below (g:=gb158) (o:=.cells #[.int .i64 a0_0,.int .i64 a0_1] 27 (0,0)) (by (with_reducible repeat (first|refine bA ?_ _|refine bB ?_|refine bC ?_ _));exact BK158.out) hb);have n1_:=zM (blk_below (g:=gb159) (o:=.cells #[.int .i64 0,.int .i64 0] 40 (0,0)) (by (with_reducible repeat (first|refine bA ?_ _|refine bB ?_|refine bC ?_ _));exact BK159.out) hb);have n2_:=zM (bG (by repeat (first|(with_reducible first|exact HB.out|apply bE|apply bD|apply bF|refine below_set ?_ GE158.out|refine below_set ?_ GE159.out)|exact HB.out)) hb);clear BK158;clear BK159;clear HB;have BK158:=n0_;have BK159:=n1_;have HB:=n2_;clear n0_ n1_ n2_;(try clear hb);(try clear hk);(try clear hi);have p161:0 ≤ (0:Int):=(by omega);have q161:0 < (l1.length:Int):=of_decide_eq_true (by first|(with_reducible assumption)|assumption);obtain ⟨ad161,e161,hx161_0,hx161_1⟩:=at_T38 HR1.out 0 p161 q161;cases e161;have qi161:(0 < l1.length) = True:=eq_true (by omega);(try rw [show ((0:Int)).toNat = 0 from rfl] at hx161_0);(try rw [show 0 * 2 = 0 from rfl] at hx161_0);(try rw [Addr.add_zero'] at hx161_0);(try rw [show ((0:Int)).toNat = 0 from rfl] at hx161_1);(try rw [show 0 * 2 = 0 from rfl] at hx161_1);(try rw [Addr.add_zero'] at hx161_1);replace hx161_0:=(HB.out.cell (World.block_lt_of_cell? w _ hx161_0)).trans hx161_0;replace hx161_1:=(HB.out.cell (World.block_lt_of_cell? w _ hx161_1)).trans hx161_1;replace p161:=eq_true p161;replace q161:=eq_true q161))
     go_meet
     case rel=>exact ⟨_,(true),(by first|rfl|(simp;done)|(simp [*];done)),H',⟨by first|omega|exact Nat.le_refl _⟩,⟨by (with_reducible repeat (first|refine bA ?_ _|refine bB ?_|refine bC ?_ _));exact BK158.out⟩,⟨by (with_reducible repeat (first|refine bA ?_ _|refine bB ?_|refine bC ?_ _));exact BK159.out⟩,⟨by repeat (first|(with_reducible first|exact HB.out|apply bE|apply bD|apply bF|refine below_set ?_ GE158.out|refine below_set ?_ GE159.out)|exact HB.out)⟩⟩
    ·rw [if_neg c10] at H
     have c10b0:decide (a2 < ((rd_T38 l1 0).f0)) = false:=decide_eq_false c10
     clear c10
     obtain ⟨ji14,hji14⟩:∃ j_:Int,(wrap64 ((l1.length:Int) - 1)) = j_:=⟨_,rfl⟩
     replace H:(if 0 ≤ (ji14) then (if (ji14) < (l1.length:Int) then (spec_CountWhen.j0 k l1 a2 (decide (a2 > ((rd_T38 l1 (ji14)).f0))) a0_0 a0_1) else (none)) else (none)) = some (r1,r2,r3):=by first|(rw [hji14] at H;exact H)|(simp only [hji14] at H ⊢;exact H)
     (try rw [hji14] at A7)
     have hji14w:(IntKind.i64.wrap ((l1.length:Int) - 1)) = ji14:=(i64_w _).trans hji14
     by_cases c15:0 ≤ (ji14)
     ·rw [if_pos c15] at H
      have c15b0:decide (0 ≤ (ji14)) = true:=decide_eq_true c15
      clear c15
      by_cases c16:(ji14) < (l1.length:Int)
      ·rw [if_pos c16] at H
       have c16b0:decide ((ji14) < (l1.length:Int)) = true:=decide_eq_true c16
       clear c16
       have H':=zM H
       clear H
       have hnb17:=NB158_159.out
       have hnc17:=NB159_158.out
       have hcz18_0:w6.cell? ⟨gb158,0,none⟩ = some (.int .i64 a0_0):=(blk_cell BK158.out 0).trans rfl
       have hcz18_1:w6.cell? ⟨gb158,1,none⟩ = some (.int .i64 a0_1):=(blk_cell BK158.out 1).trans rfl
       have hfz18_0:=blk_frozen BK158.out 0
       have hfz18_1:=blk_frozen BK158.out 1
       go_wp2_with (first|((with_reducible refine gate_callee (f:=13) rfl ?_);refine goesL_ (some 23) rfl rfl Try.func13 (by kernel_rfl) rfl #[.agg #[.int .i64 a0_0,.int .i64 a0_1],.slice A1 l1.length c1] rfl (by (try simp only [List.map_toArray,List.map_cons,List.map_nil]);first|done|rfl) ?_;(with_reducible refine (spec_MarksOk.calls k a0_0 a0_1 _ _ l1 true _ ?side1 ?side2 A7.out).mono ?_);(case side1=>repeat (first|exact (Kd.C_below HR1.out HB.out)|(with_reducible refine Kd.C_alloc ?_ _)|(with_reducible refine Kd.C_drewN ?_ _)|(with_reducible refine Kd.C_drew ?_)));(case side2=>exact HC1.out);rintro e w19 ⟨rfl,hb⟩;refine ⟨_,rfl,?_⟩;have n0_:=zM (blk_below (g:=gb158) (o:=.cells #[.int .i64 a0_0,.int .i64 a0_1] 27 (0,0)) (by (with_reducible repeat (first|refine bA ?_ _|refine bB ?_|refine bC ?_ _));exact BK158.out) hb);have n1_:=zM (blk_below (g:=gb159) (o:=.cells #[.int .i64 0,.int .i64 0] 40 (0,0)) (by (with_reducible repeat (first|refine bA ?_ _|refine bB ?_|refine bC ?_ _));exact BK159.out) hb);have n2_:=zM (bG (by repeat (first|(with_reducible first|exact HB.out|apply bE|apply bD|apply bF|refine below_set ?_ GE158.out|refine below_set ?_ GE159.out)|exact HB.out)) hb);clear BK158;clear BK159;clear HB;have BK158:=n0_;have BK159:=n1_;have HB:=n2_;clear n0_ n1_ n2_;(try clear hb);(try clear hk);(try clear hi);have p161:0 ≤ (0:Int):=(by omega);have q161:0 < (l1.length:Int):=of_decide_eq_true (by first|(with_reducible assumption)|assumption);obtain ⟨ad161,e161,hx161_0,hx161_1⟩:=at_T38 HR1.out 0 p161 q161;cases e161;have qi161:(0 < l1.length) = True:=eq_true (by omega);(try rw [show ((0:Int)).toNat = 0 from rfl] at hx161_0);(try rw [show 0 * 2 = 0 from rfl] at hx161_0);(try rw [Addr.add_zero'] at hx161_0);(try rw [show ((0:Int)).toNat = 0 from rfl] at hx161_1);(try rw [show 0 * 2 = 0 from rfl] at hx161_1);(try rw [Addr.add_zero'] at hx161_1);replace hx161_0:=(HB.out.cell (World.block_lt_of_cell? w _ hx161_0)).trans hx161_0;replace hx161_1:=(HB.out.cell (World.block_lt_of_cell? w _ hx161_1)).trans hx161_1;replace p161:=eq_true p161;replace q161:=eq_true q161;have p162:0 ≤ ((ji14):Int):=of_decide_eq_true (by first|(with_reducible assumption)|assumption);have q162:(ji14) < (l1.length:Int):=of_decide_eq_true (by first|(with_reducible assumption)|assumption);obtain ⟨ad162,e162,hx162_0,hx162_1⟩:=at_T38 HR1.out (ji14) p162 q162;obtain rfl:ad161 = ad162:=(by injection e162);replace hx162_0:=(HB.out.cell (World.block_lt_of_cell? w _ hx162_0)).trans hx162_0;replace hx162_1:=(HB.out.cell (World.block_lt_of_cell? w _ hx162_1)).trans hx162_1;replace p162:=eq_true p162;replace q162:=eq_true q162))
       go_meet
       case rel=>exact ⟨_,(decide (a2 > ((rd_T38 l1 (ji14)).f0))),(by first|rfl|(simp;done)|(simp only [← hji14] <;> (first|rfl|simp))|(simp [*];done)),H',⟨by first|omega|exact Nat.le_refl _⟩,⟨by (with_reducible repeat (first|refine bA ?_ _|refine bB ?_|refine bC ?_ _));exact BK158.out⟩,⟨by (with_reducible repeat (first|refine bA ?_ _|refine bB ?_|refine bC ?_ _));exact BK159.out⟩,⟨by repeat (first|(with_reducible first|exact HB.out|apply bE|apply bD|apply bF|refine below_set ?_ GE158.out|refine below_set ?_ GE159.out)|exact HB.out)⟩⟩
      ·rw [if_neg c16] at H
       exact absurd H (by simp)
     ·rw [if_neg c15] at H
      exact absurd H (by simp)
   ·rw [if_neg c9] at H
    exact absurd H (by simp)
  ·replace c8:=Bool.eq_false_iff.mpr c8
   subst c8
   have H1:(spec_CountWhen.j0 k l1 a2 true a0_0 a0_1) = some (r1,r2,r3):=by rw [if_neg (show ¬ (false = true) by decide)] at H;exact H
   clear H
   have H:=H1
   clear H1
   have H':=zM H
   clear H
   have hnb20:=NB158_159.out
   have hnc20:=NB159_158.out
   have hcz21_0:w6.cell? ⟨gb158,0,none⟩ = some (.int .i64 a0_0):=(blk_cell BK158.out 0).trans rfl
   have hcz21_1:w6.cell? ⟨gb158,1,none⟩ = some (.int .i64 a0_1):=(blk_cell BK158.out 1).trans rfl
   have hfz21_0:=blk_frozen BK158.out 0
   have hfz21_1:=blk_frozen BK158.out 1
   go_wp2_with (first|((with_reducible refine gate_callee (f:=13) rfl ?_);refine goesL_ (some 23) rfl rfl Try.func13 (by kernel_rfl) rfl #[.agg #[.int .i64 a0_0,.int .i64 a0_1],.slice A1 l1.length c1] rfl (by (try simp only [List.map_toArray,List.map_cons,List.map_nil]);first|done|rfl) ?_;(with_reducible refine (spec_MarksOk.calls k a0_0 a0_1 _ _ l1 false _ ?side1 ?side2 A7.out).mono ?_);(case side1=>repeat (first|exact (Kd.C_below HR1.out HB.out)|(with_reducible refine Kd.C_alloc ?_ _)|(with_reducible refine Kd.C_drewN ?_ _)|(with_reducible refine Kd.C_drew ?_)));(case side2=>exact HC1.out);rintro e w22 ⟨rfl,hb⟩;refine ⟨_,rfl,?_⟩;have n0_:=zM (blk_below (g:=gb158) (o:=.cells #[.int .i64 a0_0,.int .i64 a0_1] 27 (0,0)) (by (with_reducible repeat (first|refine bA ?_ _|refine bB ?_|refine bC ?_ _));exact BK158.out) hb);have n1_:=zM (blk_below (g:=gb159) (o:=.cells #[.int .i64 0,.int .i64 0] 40 (0,0)) (by (with_reducible repeat (first|refine bA ?_ _|refine bB ?_|refine bC ?_ _));exact BK159.out) hb);have n2_:=zM (bG (by repeat (first|(with_reducible first|exact HB.out|apply bE|apply bD|apply bF|refine below_set ?_ GE158.out|refine below_set ?_ GE159.out)|exact HB.out)) hb);clear BK158;clear BK159;clear HB;have BK158:=n0_;have BK159:=n1_;have HB:=n2_;clear n0_ n1_ n2_;(try clear hb);(try clear hk);(try clear hi)))
   go_meet
   case rel=>exact ⟨_,(true),(by first|rfl|(simp;done)|(simp [*];done)),H',⟨by first|omega|exact Nat.le_refl _⟩,⟨by (with_reducible repeat (first|refine bA ?_ _|refine bB ?_|refine bC ?_ _));exact BK158.out⟩,⟨by (with_reducible repeat (first|refine bA ?_ _|refine bB ?_|refine bC ?_ _));exact BK159.out⟩,⟨by repeat (first|(with_reducible first|exact HB.out|apply bE|apply bD|apply bF|refine below_set ?_ GE158.out|refine below_set ?_ GE159.out)|exact HB.out)⟩⟩
 case rest =>
  clear HC4
  try clear c1
  try clear p1
  try clear q1
  try clear hx1
  try clear qi1
  try clear c2
  try clear p2
  try clear p6
  try clear c8
  try clear c9
  try clear c9b0
  try clear c9b1
  try clear c10
  try clear c10b0
  try clear c11
  try clear c13
  try clear c15
  try clear c15b0
  try clear c16
  try clear c16b0
  try clear p16
  try clear q16
  try clear hx16
  try clear qi16
  try clear c17
  try clear c20
  try clear hcz12_0
  try clear hcz12_1
  try clear hcz18_0
  try clear hcz18_1
  try clear hcz21_0
  try clear hcz21_1
  try clear hfz12_0
  try clear hfz12_1
  try clear hfz18_0
  try clear hfz18_1
  try clear hfz21_0
  try clear hfz21_1
  try clear hx161_0
  try clear hx161_1
  try clear hx162_0
  try clear hx162_1
  try clear p161
  try clear p162
  try clear q161
  try clear q162
  obtain ⟨kq,x43_3,rfl,HA,HJ3,BK158,BK159,HB⟩:=hcut
  cases kq with
  | zero=>exact absurd HA.out (by simp [spec_CountWhen.j0])
  | succ kj3 =>
   have H:=HA.out
   clear HA
   simp only [spec_CountWhen.j0] at H
   by_cases c23:x43_3 = true
   ·subst c23
    have H1:(some (0,0,false)) = some (r1,r2,r3):=by rw [if_pos rfl] at H;exact H
    clear H
    have H:=H1
    clear H1
    simp only [zI,zJ] at H
    obtain ⟨rfl,rfl,rfl⟩:=H
    have hnb24:=NB159_158.out
    have hnc24:=NB158_159.out
    have hcz25_0:wc.cell? ⟨gb159,0,none⟩ = some (.int .i64 0):=(blk_cell BK159.out 0).trans rfl
    have hcz25_1:wc.cell? ⟨gb159,1,none⟩ = some (.int .i64 0):=(blk_cell BK159.out 1).trans rfl
    have hfz25_0:=blk_frozen BK159.out 0
    have hfz25_1:=blk_frozen BK159.out 1
    go_wp2
    refine bodyPost_ret (results_ct rfl _ _ gb159 40 #[.int .i64 0,.int .i64 0] (0,0) _ rfl (by (with_reducible repeat (first|refine bA ?_ _|refine bB ?_|refine bC ?_ _));refine bH (cs:=#[.int .i64 0,.int .i64 0]) ?_ 1 _ rfl;(with_reducible repeat (first|refine bA ?_ _|refine bB ?_|refine bC ?_ _));refine bH (cs:=#[.int .i64 0,.int .i64 0]) ?_ 0 _ rfl;(with_reducible repeat (first|refine bA ?_ _|refine bB ?_|refine bC ?_ _));exact BK159.out) Try.underlying40 rfl (by kernel_rfl)) rfl ?_
    exact ⟨by first|rfl|(simp [*,errW_none,errW_some] <;> rfl),by repeat (first|(with_reducible first|exact HB.out|apply bE|apply bD|apply bF|refine below_set ?_ GE158.out|refine below_set ?_ GE159.out)|exact HB.out)⟩
   ·replace c23:=Bool.eq_false_iff.mpr c23
    subst c23
    have H1:(spec_CountWhen.l0 kj3 l1 a2 0 0 a0_0 a0_1) = some (r1,r2,r3):=by rw [if_neg (show ¬ (false = true) by decide)] at H;exact H
    clear H
    have H:=H1
    clear H1
    have H':=zM H
    clear H
    go_wp2
    go_loopg [8,9] kj3 (fun kq v8 v9 w'=>∃ (x8_2:Int) (x9_2:Int),v8 = .int .i64 x8_2 ∧ v9 = .int .i64 x9_2 ∧ Aside0 (spec_CountWhen.l0 kq l1 a2 x8_2 x9_2 a0_0 a0_1 = some (r1,r2,r3)) ∧ Aside0 (kq ≤ kj3) ∧ Aside0 (w'.heap[gb158]? = some (.cells #[.int .i64 a0_0,.int .i64 a0_1] 27 (0,0))) ∧ Aside0 (w'.heap[gb159]? = some (.cells #[.int .i64 0,.int .i64 0] 40 (0,0))) ∧ Aside0 (Below w.heap.size w w'))
    case atStart=>exact ⟨(0),(0),(by first|rfl|(simp;done)|(simp [*];done)),(by first|rfl|(simp;done)|(simp [*];done)),H',⟨Nat.le_refl _⟩,⟨by (with_reducible repeat (first|refine bA ?_ _|refine bB ?_|refine bC ?_ _));exact BK158.out⟩,⟨by (with_reducible repeat (first|refine bA ?_ _|refine bB ?_|refine bC ?_ _));exact BK159.out⟩,⟨by repeat (first|(with_reducible first|exact HB.out|apply bE|apply bD|apply bF|refine below_set ?_ GE158.out|refine below_set ?_ GE159.out)|exact HB.out)⟩⟩
    case round =>
     clear H'
     try clear c1
     try clear p1
     try clear q1
     try clear hx1
     try clear qi1
     try clear c2
     try clear p2
     try clear p6
     try clear c8
     try clear c9
     try clear c9b0
     try clear c9b1
     try clear c10
     try clear c10b0
     try clear c11
     try clear c13
     try clear c15
     try clear c15b0
     try clear c16
     try clear c16b0
     try clear p16
     try clear q16
     try clear hx16
     try clear qi16
     try clear c17
     try clear c20
     try clear c23
     try clear c24
     try clear c25
     try clear hcz12_0
     try clear hcz12_1
     try clear hcz18_0
     try clear hcz18_1
     try clear hcz21_0
     try clear hcz21_1
     try clear hcz25_0
     try clear hcz25_1
     try clear hfz12_0
     try clear hfz12_1
     try clear hfz18_0
     try clear hfz18_1
     try clear hfz21_0
     try clear hfz21_1
     try clear hfz25_0
     try clear hfz25_1
     try clear hx161_0
     try clear hx161_1
     try clear hx162_0
     try clear hx162_1
     try clear p1
     try clear p16
     try clear p161
     try clear p162
     try clear p2
     try clear p6
     try clear q1
     try clear q16
     try clear q161
     try clear q162
     obtain ⟨x8_2,x9_2,rfl,rfl,HA,HK2,BK158,BK159,HB⟩:=hrel
     cases gk with
     | zero=>exact absurd HA.out (by simp [spec_CountWhen.l0])
     | succ k2 =>
      have H:=HA.out
      clear HA
      simp only [spec_CountWhen.l0] at H
      by_cases c26:x9_2 < (l1.length:Int)
      ·rw [if_pos c26] at H
       have c26b0:decide (x9_2 < (l1.length:Int)) = true:=decide_eq_true c26
       clear c26
       by_cases c27:0 ≤ x9_2
       ·rw [if_pos c27] at H
        have c27b0:decide (0 ≤ x9_2) = true:=decide_eq_true c27
        clear c27
        by_cases c28:((rd_T38 l1 x9_2).f0) ≤ a2
        ·rw [if_pos c28] at H
         have c28b0:decide (((rd_T38 l1 x9_2).f0) ≤ a2) = true:=decide_eq_true c28
         clear c28
         have H':=zM H
         clear H
         have p163:0 ≤ (x9_2:Int):=of_decide_eq_true (by first|(with_reducible assumption)|assumption)
         have q163:x9_2 < (l1.length:Int):=of_decide_eq_true (by first|(with_reducible assumption)|assumption)
         obtain ⟨ad163,e163,hx163_0,hx163_1⟩:=at_T38 HR1.out x9_2 p163 q163
         cases e163
         replace hx163_0:=(HB.out.cell (World.block_lt_of_cell? w _ hx163_0)).trans hx163_0
         replace hx163_1:=(HB.out.cell (World.block_lt_of_cell? w _ hx163_1)).trans hx163_1
         replace p163:=eq_true p163
         replace q163:=eq_true q163
         go_wp2
         go_roundg k2
         case measure=>have:=HJ3.out;have:=HK2.out;omega
         case rel=>exact ⟨(x9_2),(wrap64 (x9_2 + 1)),(by first|rfl|(simp;done)|(simp [*];done)),(by first|rfl|(simp;done)|(simp [*];done)),H',⟨by have:=HJ3.out;have:=HK2.out;omega⟩,⟨by (with_reducible repeat (first|refine bA ?_ _|refine bB ?_|refine bC ?_ _));exact BK158.out⟩,⟨by (with_reducible repeat (first|refine bA ?_ _|refine bB ?_|refine bC ?_ _));exact BK159.out⟩,⟨by repeat (first|(with_reducible first|exact HB.out|apply bE|apply bD|apply bF|refine below_set ?_ GE158.out|refine below_set ?_ GE159.out)|exact HB.out)⟩⟩
        ·rw [if_neg c28] at H
         have c28b0:decide (((rd_T38 l1 x9_2).f0) ≤ a2) = false:=decide_eq_false c28
         clear c28
         have H':=zM H
         clear H
         have p163:0 ≤ (x9_2:Int):=of_decide_eq_true (by first|(with_reducible assumption)|assumption)
         have q163:x9_2 < (l1.length:Int):=of_decide_eq_true (by first|(with_reducible assumption)|assumption)
         obtain ⟨ad163,e163,hx163_0,hx163_1⟩:=at_T38 HR1.out x9_2 p163 q163
         cases e163
         replace hx163_0:=(HB.out.cell (World.block_lt_of_cell? w _ hx163_0)).trans hx163_0
         replace hx163_1:=(HB.out.cell (World.block_lt_of_cell? w _ hx163_1)).trans hx163_1
         replace p163:=eq_true p163
         replace q163:=eq_true q163
         go_wp2
         go_roundg k2
         case measure=>have:=HJ3.out;have:=HK2.out;omega
         case rel=>exact ⟨(x8_2),(wrap64 (x9_2 + 1)),(by first|rfl|(simp;done)|(simp [*];done)),(by first|rfl|(simp;done)|(simp [*];done)),H',⟨by have:=HJ3.out;have:=HK2.out;omega⟩,⟨by (with_reducible repeat (first|refine bA ?_ _|refine bB ?_|refine bC ?_ _));exact BK158.out⟩,⟨by (with_reducible repeat (first|refine bA ?_ _|refine bB ?_|refine bC ?_ _));exact BK159.out⟩,⟨by repeat (first|(with_reducible first|exact HB.out|apply bE|apply bD|apply bF|refine below_set ?_ GE158.out|refine below_set ?_ GE159.out)|exact HB.out)⟩⟩
       ·rw [if_neg c27] at H
        exact absurd H (by simp)
      ·rw [if_neg c26] at H
       have c26b0:decide (x9_2 < (l1.length:Int)) = false:=decide_eq_false c26
       clear c26
       by_cases c29:0 ≤ x8_2
       ·rw [if_pos c29] at H
        have c29b0:decide (0 ≤ x8_2) = true:=decide_eq_true c29
        clear c29
        by_cases c30:x8_2 < (l1.length:Int)
        ·rw [if_pos c30] at H
         have c30b0:decide (x8_2 < (l1.length:Int)) = true:=decide_eq_true c30
         clear c30
         replace H:=zO H
         obtain ⟨⟨t165,t166⟩,A310,H⟩:=H
         replace H:((spec_MostCount.f k2 a0_0 a0_1 (wrap64 (a2 - ((rd_T38 l1 x8_2).f0)))).bind fun bt168=>(if t166 = true then (spec_CountWhen.j2 k2 l1 a2 x8_2 t165 bt168.1 (!bt168.2) a0_0 a0_1) else (spec_CountWhen.j2 k2 l1 a2 x8_2 t165 bt168.1 true a0_0 a0_1))) = some (r1,r2,r3):=H
         have A31:=zM A310
         clear A310
         replace H:=zO H
         obtain ⟨⟨t168,t169⟩,A320,H⟩:=H
         replace H:(if t166 = true then (spec_CountWhen.j2 k2 l1 a2 x8_2 t165 t168 (!t169) a0_0 a0_1) else (spec_CountWhen.j2 k2 l1 a2 x8_2 t165 t168 true a0_0 a0_1)) = some (r1,r2,r3):=H
         have A32:=zM A320
         clear A320
         have HC33:=zM H
         clear H
         try go_wp2
         have n0_:=zM (bB BK158.out)
         have n1_:=zM (bB BK159.out)
         have n2_:=zM (bF HB.out)
         clear BK158
         clear BK159
         clear HB
         have BK158:=n0_
         have BK159:=n1_
         have HB:=n2_
         clear n0_ n1_ n2_
         have p164:0 ≤ (x8_2:Int):=of_decide_eq_true (by first|(with_reducible assumption)|assumption)
         have q164:x8_2 < (l1.length:Int):=of_decide_eq_true (by first|(with_reducible assumption)|assumption)
         obtain ⟨ad164,e164,hx164_0,hx164_1⟩:=at_T38 HR1.out x8_2 p164 q164
         have hw164_1:=hx164_1
         have hw164_0:=hx164_0
         cases e164
         replace hx164_0:=(HB.out.cell (World.block_lt_of_cell? w _ hx164_0)).trans hx164_0
         replace hx164_1:=(HB.out.cell (World.block_lt_of_cell? w _ hx164_1)).trans hx164_1
         replace p164:=eq_true p164
         replace q164:=eq_true q164
         refine start_ (n:=14) (S:=fun w'=>w'.cell? ⟨gb158,0,none⟩ = some (.int .i64 a0_0) ∧ w'.cell? ⟨gb158,1,none⟩ = some (.int .i64 a0_1) ∧ w'.cell? (ad164.add ((x8_2).toNat * 2)) = some (.int .i64 ((rd_T38 l1 x8_2).f0)) ∧ w'.cell? ⟨(ad164.add ((x8_2).toNat * 2)).block,(ad164.add ((x8_2).toNat * 2)).off + 1,none⟩ = some (.int .i64 ((rd_T38 l1 x8_2).f1))) (ds:=[]) #[false,false,false,false,false,false,false,false,false,false,false,false,false,false] (by kernel_rfl) rfl rfl ⟨(blk_cell BK158.out 0).trans rfl,(blk_cell BK158.out 1).trans rfl,((HB.out.cell (World.block_lt_of_cell? w _ hw164_0)).trans hw164_0),((HB.out.cell (World.block_lt_of_cell? w _ hw164_1)).trans hw164_1)⟩ (fun hHeld=>?_);refine with_tabW spec_CountWhen.tab9 spec_CountWhen.bits9 (fun HT_ HW_=>?_)
         generalize wr.drew = w34 at BK158 BK159 HB hx164_0 hx164_1 hHeld ⊢
         refine pure_ (i:=1) (N:=some 61) (v:=?_) (a':=?_) #[false,true,false,false,false,false,false,false,false,false,false,false,false,false] rfl rfl (any_of HT_.out (by kernel_rfl)) (fun _ _ _ h=>h) (Or.inl ⟨by rfl,?_⟩) ?_ ?_
         rotate_left
         ·intro w'
          go_simp
          with_reducible rfl
         rotate_left
         ·simp only [Act.put,zS,z0,z1,i64_w,i32_w]
          rfl
         refine pure_ (i:=2) (N:=some 62) (v:=?_) (a':=?_) #[false,true,true,false,false,false,false,false,false,false,false,false,false,false] rfl rfl (any_of HT_.out (by kernel_rfl)) (fun _ _ _ h=>h) (Or.inl ⟨by rfl,?_⟩) ?_ ?_
         rotate_left
         ·intro w'
          go_simp
          with_reducible rfl
         rotate_left
         ·simp only [Act.put,zS,z0,z1,i64_w,i32_w]
          rfl
         refine pure_ (i:=3) (N:=some 63) (v:=?_) (a':=?_) #[false,true,true,true,false,false,false,false,false,false,false,false,false,false] rfl rfl (any_of HT_.out (by kernel_rfl)) (fun _ _ _ h=>h) (Or.inl ⟨by rfl,?_⟩) ?_ ?_
         rotate_left
         ·intro w'
          go_simp
          with_reducible rfl
         rotate_left
         ·simp only [Act.put,zS,z0,z1,i64_w,i32_w]
          rfl
         refine pure_ (i:=4) (N:=some 64) (v:=?_) (a':=?_) #[false,true,true,true,true,false,false,false,false,false,false,false,false,false] rfl rfl (any_of HT_.out (by kernel_rfl)) (fun _ _ _ h=>h) (Or.inl ⟨by rfl,?_⟩) ?_ ?_
         rotate_left
         ·intro w'
          go_simp
          with_reducible rfl
         rotate_left
         ·simp only [Act.put,zS,z0,z1,i64_w,i32_w]
          rfl
         refine pure_ (i:=5) (N:=some 65) (v:=?_) (a':=?_) #[false,true,true,true,true,true,false,false,false,false,false,false,false,false] rfl rfl (any_of HT_.out (by kernel_rfl)) (fun _ _ _ h=>h) (Or.inl ⟨by rfl,?_⟩) ?_ ?_
         rotate_left
         ·intro w'
          go_simp
          with_reducible rfl
         rotate_left
         ·simp only [Act.put,zS,z0,z1,i64_w,i32_w]
          rfl
         refine take_ (i:=0) (N:=some 60) (v:=?_) (a':=?_) #[true,true,true,true,true,true,false,false,false,false,false,false,false,false] rfl rfl (take_ofW HT_.out HW_.out (by kernel_rfl)) (fun _ _ _ h=>h) (Or.inl ⟨by rfl,?_⟩) hHeld ?_ ?_
         rotate_left
         ·rintro w' ⟨s0,s1,s2,s3⟩
          go_simp
          with_reducible rfl
         rotate_left
         ·simp only [Act.put,zS,z0,z1,i64_w,i32_w]
          rfl
         refine take_ (i:=6) (N:=some 66) (v:=?_) (a':=?_) #[true,true,true,true,true,true,true,false,false,false,false,false,false,false] rfl rfl (take_ofW HT_.out HW_.out (by kernel_rfl)) (fun _ _ _ h=>h) (Or.inl ⟨by rfl,?_⟩) hHeld ?_ ?_
         rotate_left
         ·rintro w' ⟨s0,s1,s2,s3⟩
          go_simp
          with_reducible rfl
         rotate_left
         ·simp only [Act.put,zS,z0,z1,i64_w,i32_w]
          rfl
         refine pure_ (i:=7) (N:=some 67) (v:=?_) (a':=?_) #[true,true,true,true,true,true,true,true,false,false,false,false,false,false] rfl rfl (any_of HT_.out (by kernel_rfl)) (fun _ _ _ h=>h) (Or.inl ⟨by rfl,?_⟩) ?_ ?_
         rotate_left
         ·intro w'
          go_simp
          with_reducible rfl
         rotate_left
         ·simp only [Act.put,zS,z0,z1,i64_w,i32_w]
          rfl
         refine one_ (i:=8) (N:=some 68) #[true,true,true,true,true,true,true,true,true,false,false,false,false,false] rfl rfl (one_of HT_.out (by kernel_rfl)) (by decide) (fun K hK=>?_)
         refine goes_ Try.func55 (by kernel_rfl) rfl #[.agg #[.int .i64 a0_0,.int .i64 a0_1],.int .i64 (wrap64 (a2 - ((rd_T38 l1 x8_2).f0)))] (by rfl) rfl rfl (by (try simp only [List.map_toArray,List.map_cons,List.map_nil]);first|done|rfl) ?_
         with_reducible refine (spec_LeastCount.calls k2 a0_0 a0_1 (wrap64 (a2 - ((rd_T38 l1 x8_2).f0))) t165 t166 _ A31.out).mono ?_
         rintro e w35 ⟨rfl,hb⟩
         refine ⟨_,rfl,?_⟩
         have n0_:=zM (blk_below (g:=gb158) (o:=.cells #[.int .i64 a0_0,.int .i64 a0_1] 27 (0,0)) (by (with_reducible repeat (first|refine bA ?_ _|refine bB ?_|refine bC ?_ _));exact BK158.out) hb)
         have n1_:=zM (blk_below (g:=gb159) (o:=.cells #[.int .i64 0,.int .i64 0] 40 (0,0)) (by (with_reducible repeat (first|refine bA ?_ _|refine bB ?_|refine bC ?_ _));exact BK159.out) hb)
         have n2_:=zM (bG (by repeat (first|(with_reducible first|exact HB.out|apply bE|apply bD|apply bF|refine below_set ?_ GE158.out|refine below_set ?_ GE159.out)|exact HB.out)) hb)
         clear BK158
         clear BK159
         clear HB
         have BK158:=n0_
         have BK159:=n1_
         have HB:=n2_
         clear n0_ n1_ n2_
         (try clear hb)
         (try clear hb2)
         (try clear hk)
         (try clear hi)
         refine hK.out _ _ ⟨(blk_cell BK158.out 0).trans rfl,(blk_cell BK158.out 1).trans rfl,((HB.out.cell (World.block_lt_of_cell? w _ hw164_0)).trans hw164_0),((HB.out.cell (World.block_lt_of_cell? w _ hw164_1)).trans hw164_1)⟩ (fun hHeld=>?_)
         clear hK K
         refine norm_ (a':=?_) ?_ ?_
         rotate_left
         ·show Act.put _ (some 68) _ = _
          simp only [Act.put,zS,z0,z1,i64_w,i32_w]
          rfl
         refine pure_ (i:=9) (N:=some 59) (v:=?_) (a':=?_) #[true,true,true,true,true,true,true,true,true,true,false,false,false,false] rfl rfl (any_of HT_.out (by kernel_rfl)) (fun _ _ _ h=>h) (Or.inl ⟨by rfl,?_⟩) ?_ ?_
         rotate_left
         ·intro w'
          go_simp
          with_reducible rfl
         rotate_left
         ·simp only [Act.put,zS,z0,z1,i64_w,i32_w]
          rfl
         refine pure_ (i:=10) (N:=some 69) (v:=?_) (a':=?_) #[true,true,true,true,true,true,true,true,true,true,true,false,false,false] rfl rfl (any_of HT_.out (by kernel_rfl)) (fun _ _ _ h=>h) (Or.inl ⟨by rfl,?_⟩) ?_ ?_
         rotate_left
         ·intro w'
          go_simp
          with_reducible rfl
         rotate_left
         ·simp only [Act.put,zS,z0,z1,i64_w,i32_w]
          rfl
         refine pure_ (i:=11) (N:=some 70) (v:=?_) (a':=?_) #[true,true,true,true,true,true,true,true,true,true,true,true,false,false] rfl rfl (any_of HT_.out (by kernel_rfl)) (fun _ _ _ h=>h) (Or.inl ⟨by rfl,?_⟩) ?_ ?_
         rotate_left
         ·intro w'
          go_simp
          with_reducible rfl
         rotate_left
         ·simp only [Act.put,zS,z0,z1,i64_w,i32_w]
          rfl
         refine pure_ (i:=12) (N:=some 10) (v:=?_) (a':=?_) #[true,true,true,true,true,true,true,true,true,true,true,true,true,false] rfl rfl (any_of HT_.out (by kernel_rfl)) (fun _ _ _ h=>h) (Or.inl ⟨by rfl,?_⟩) ?_ ?_
         rotate_left
         ·intro w'
          go_simp
          with_reducible rfl
         rotate_left
         ·simp only [Act.put,zS,z0,z1,i64_w,i32_w]
          rfl
         refine pure_ (i:=13) (N:=some 11) (v:=?_) (a':=?_) #[true,true,true,true,true,true,true,true,true,true,true,true,true,true] rfl rfl (any_of HT_.out (by kernel_rfl)) (fun _ _ _ h=>h) (Or.inl ⟨by rfl,?_⟩) ?_ ?_
         rotate_left
         ·intro w'
          go_simp
          with_reducible rfl
         rotate_left
         ·simp only [Act.put,zS,z0,z1,i64_w,i32_w]
          rfl
         refine done_ (done_of HT_.out (by kernel_rfl)) ?_
         try go_wp2
         have n0_:=zM (bB BK158.out)
         have n1_:=zM (bB BK159.out)
         have n2_:=zM (bF HB.out)
         clear BK158
         clear BK159
         clear HB
         have BK158:=n0_
         have BK159:=n1_
         have HB:=n2_
         clear n0_ n1_ n2_
         have p167:0 ≤ (x8_2:Int):=of_decide_eq_true (by first|(with_reducible assumption)|assumption)
         have q167:x8_2 < (l1.length:Int):=of_decide_eq_true (by first|(with_reducible assumption)|assumption)
         obtain ⟨ad167,e167,hx167_0,hx167_1⟩:=at_T38 HR1.out x8_2 p167 q167
         have hw167_1:=hx167_1
         have hw167_0:=hx167_0
         obtain rfl:ad164 = ad167:=(by injection e167)
         replace hx167_0:=(HB.out.cell (World.block_lt_of_cell? w _ hx167_0)).trans hx167_0
         replace hx167_1:=(HB.out.cell (World.block_lt_of_cell? w _ hx167_1)).trans hx167_1
         replace p167:=eq_true p167
         replace q167:=eq_true q167
         refine start_ (n:=14) (S:=fun w'=>w'.cell? ⟨gb158,0,none⟩ = some (.int .i64 a0_0) ∧ w'.cell? ⟨gb158,1,none⟩ = some (.int .i64 a0_1) ∧ w'.cell? (ad164.add ((x8_2).toNat * 2)) = some (.int .i64 ((rd_T38 l1 x8_2).f0)) ∧ w'.cell? ⟨(ad164.add ((x8_2).toNat * 2)).block,(ad164.add ((x8_2).toNat * 2)).off + 1,none⟩ = some (.int .i64 ((rd_T38 l1 x8_2).f1))) (ds:=[]) #[false,false,false,false,false,false,false,false,false,false,false,false,false,false] (by kernel_rfl) rfl rfl ⟨(blk_cell BK158.out 0).trans rfl,(blk_cell BK158.out 1).trans rfl,((HB.out.cell (World.block_lt_of_cell? w _ hw167_0)).trans hw167_0),((HB.out.cell (World.block_lt_of_cell? w _ hw167_1)).trans hw167_1)⟩ (fun hHeld=>?_);refine with_tabW spec_CountWhen.tab10 spec_CountWhen.bits10 (fun HT_ HW_=>?_)
         generalize w35.drew = w36 at BK158 BK159 HB hx167_0 hx167_1 hHeld ⊢
         refine pure_ (i:=1) (N:=some 73) (v:=?_) (a':=?_) #[false,true,false,false,false,false,false,false,false,false,false,false,false,false] rfl rfl (any_of HT_.out (by kernel_rfl)) (fun _ _ _ h=>h) (Or.inl ⟨by rfl,?_⟩) ?_ ?_
         rotate_left
         ·intro w'
          go_simp
          with_reducible rfl
         rotate_left
         ·simp only [Act.put,zS,z0,z1,i64_w,i32_w]
          rfl
         refine pure_ (i:=2) (N:=some 74) (v:=?_) (a':=?_) #[false,true,true,false,false,false,false,false,false,false,false,false,false,false] rfl rfl (any_of HT_.out (by kernel_rfl)) (fun _ _ _ h=>h) (Or.inl ⟨by rfl,?_⟩) ?_ ?_
         rotate_left
         ·intro w'
          go_simp
          with_reducible rfl
         rotate_left
         ·simp only [Act.put,zS,z0,z1,i64_w,i32_w]
          rfl
         refine pure_ (i:=3) (N:=some 75) (v:=?_) (a':=?_) #[false,true,true,true,false,false,false,false,false,false,false,false,false,false] rfl rfl (any_of HT_.out (by kernel_rfl)) (fun _ _ _ h=>h) (Or.inl ⟨by rfl,?_⟩) ?_ ?_
         rotate_left
         ·intro w'
          go_simp
          with_reducible rfl
         rotate_left
         ·simp only [Act.put,zS,z0,z1,i64_w,i32_w]
          rfl
         refine pure_ (i:=4) (N:=some 76) (v:=?_) (a':=?_) #[false,true,true,true,true,false,false,false,false,false,false,false,false,false] rfl rfl (any_of HT_.out (by kernel_rfl)) (fun _ _ _ h=>h) (Or.inl ⟨by rfl,?_⟩) ?_ ?_
         rotate_left
         ·intro w'
          go_simp
          with_reducible rfl
         rotate_left
         ·simp only [Act.put,zS,z0,z1,i64_w,i32_w]
          rfl
         refine pure_ (i:=5) (N:=some 77) (v:=?_) (a':=?_) #[false,true,true,true,true,true,false,false,false,false,false,false,false,false] rfl rfl (any_of HT_.out (by kernel_rfl)) (fun _ _ _ h=>h) (Or.inl ⟨by rfl,?_⟩) ?_ ?_
         rotate_left
         ·intro w'
          go_simp
          with_reducible rfl
         rotate_left
         ·simp only [Act.put,zS,z0,z1,i64_w,i32_w]
          rfl
         refine take_ (i:=0) (N:=some 72) (v:=?_) (a':=?_) #[true,true,true,true,true,true,false,false,false,false,false,false,false,false] rfl rfl (take_ofW HT_.out HW_.out (by kernel_rfl)) (fun _ _ _ h=>h) (Or.inl ⟨by rfl,?_⟩) hHeld ?_ ?_
         rotate_left
         ·rintro w' ⟨s0,s1,s2,s3⟩
          go_simp
          with_reducible rfl
         rotate_left
         ·simp only [Act.put,zS,z0,z1,i64_w,i32_w]
          rfl
         refine take_ (i:=6) (N:=some 78) (v:=?_) (a':=?_) #[true,true,true,true,true,true,true,false,false,false,false,false,false,false] rfl rfl (take_ofW HT_.out HW_.out (by kernel_rfl)) (fun _ _ _ h=>h) (Or.inl ⟨by rfl,?_⟩) hHeld ?_ ?_
         rotate_left
         ·rintro w' ⟨s0,s1,s2,s3⟩
          go_simp
          with_reducible rfl
         rotate_left
         ·simp only [Act.put,zS,z0,z1,i64_w,i32_w]
          rfl
         refine pure_ (i:=7) (N:=some 79) (v:=?_) (a':=?_) #[true,true,true,true,true,true,true,true,false,false,false,false,false,false] rfl rfl (any_of HT_.out (by kernel_rfl)) (fun _ _ _ h=>h) (Or.inl ⟨by rfl,?_⟩) ?_ ?_
         rotate_left
         ·intro w'
          go_simp
          with_reducible rfl
         rotate_left
         ·simp only [Act.put,zS,z0,z1,i64_w,i32_w]
          rfl
         refine one_ (i:=8) (N:=some 80) #[true,true,true,true,true,true,true,true,true,false,false,false,false,false] rfl rfl (one_of HT_.out (by kernel_rfl)) (by decide) (fun K hK=>?_)
         refine goes_ Try.func56 (by kernel_rfl) rfl #[.agg #[.int .i64 a0_0,.int .i64 a0_1],.int .i64 (wrap64 (a2 - ((rd_T38 l1 x8_2).f0)))] (by rfl) rfl rfl (by (try simp only [List.map_toArray,List.map_cons,List.map_nil]);first|done|rfl) ?_
         with_reducible refine (spec_MostCount.calls k2 a0_0 a0_1 (wrap64 (a2 - ((rd_T38 l1 x8_2).f0))) t168 t169 _ A32.out).mono ?_
         rintro e w37 ⟨rfl,hb⟩
         refine ⟨_,rfl,?_⟩
         have n0_:=zM (blk_below (g:=gb158) (o:=.cells #[.int .i64 a0_0,.int .i64 a0_1] 27 (0,0)) (by (with_reducible repeat (first|refine bA ?_ _|refine bB ?_|refine bC ?_ _));exact BK158.out) hb)
         have n1_:=zM (blk_below (g:=gb159) (o:=.cells #[.int .i64 0,.int .i64 0] 40 (0,0)) (by (with_reducible repeat (first|refine bA ?_ _|refine bB ?_|refine bC ?_ _));exact BK159.out) hb)
         have n2_:=zM (bG (by repeat (first|(with_reducible first|exact HB.out|apply bE|apply bD|apply bF|refine below_set ?_ GE158.out|refine below_set ?_ GE159.out)|exact HB.out)) hb)
         clear BK158
         clear BK159
         clear HB
         have BK158:=n0_
         have BK159:=n1_
         have HB:=n2_
         clear n0_ n1_ n2_
         (try clear hb)
         (try clear hb2)
         (try clear hk)
         (try clear hi)
         refine hK.out _ _ ⟨(blk_cell BK158.out 0).trans rfl,(blk_cell BK158.out 1).trans rfl,((HB.out.cell (World.block_lt_of_cell? w _ hw167_0)).trans hw167_0),((HB.out.cell (World.block_lt_of_cell? w _ hw167_1)).trans hw167_1)⟩ (fun hHeld=>?_)
         clear hK K
         refine norm_ (a':=?_) ?_ ?_
         rotate_left
         ·show Act.put _ (some 80) _ = _
          simp only [Act.put,zS,z0,z1,i64_w,i32_w]
          rfl
         refine pure_ (i:=9) (N:=some 71) (v:=?_) (a':=?_) #[true,true,true,true,true,true,true,true,true,true,false,false,false,false] rfl rfl (any_of HT_.out (by kernel_rfl)) (fun _ _ _ h=>h) (Or.inl ⟨by rfl,?_⟩) ?_ ?_
         rotate_left
         ·intro w'
          go_simp
          with_reducible rfl
         rotate_left
         ·simp only [Act.put,zS,z0,z1,i64_w,i32_w]
          rfl
         refine pure_ (i:=10) (N:=some 81) (v:=?_) (a':=?_) #[true,true,true,true,true,true,true,true,true,true,true,false,false,false] rfl rfl (any_of HT_.out (by kernel_rfl)) (fun _ _ _ h=>h) (Or.inl ⟨by rfl,?_⟩) ?_ ?_
         rotate_left
         ·intro w'
          go_simp
          with_reducible rfl
         rotate_left
         ·simp only [Act.put,zS,z0,z1,i64_w,i32_w]
          rfl
         refine pure_ (i:=11) (N:=some 82) (v:=?_) (a':=?_) #[true,true,true,true,true,true,true,true,true,true,true,true,false,false] rfl rfl (any_of HT_.out (by kernel_rfl)) (fun _ _ _ h=>h) (Or.inl ⟨by rfl,?_⟩) ?_ ?_
         rotate_left
         ·intro w'
          go_simp
          with_reducible rfl
         rotate_left
         ·simp only [Act.put,zS,z0,z1,i64_w,i32_w]
          rfl
         refine pure_ (i:=12) (N:=some 12) (v:=?_) (a':=?_) #[true,true,true,true,true,true,true,true,true,true,true,true,true,false] rfl rfl (any_of HT_.out (by kernel_rfl)) (fun _ _ _ h=>h) (Or.inl ⟨by rfl,?_⟩) ?_ ?_
         rotate_left
         ·intro w'
          go_simp
          with_reducible rfl
         rotate_left
         ·simp only [Act.put,zS,z0,z1,i64_w,i32_w]
          rfl
         refine pure_ (i:=13) (N:=some 13) (v:=?_) (a':=?_) #[true,true,true,true,true,true,true,true,true,true,true,true,true,true] rfl rfl (any_of HT_.out (by kernel_rfl)) (fun _ _ _ h=>h) (Or.inl ⟨by rfl,?_⟩) ?_ ?_
         rotate_left
         ·intro w'
          go_simp
          with_reducible rfl
         rotate_left
         ·simp only [Act.put,zS,z0,z1,i64_w,i32_w]
          rfl
         refine done_ (done_of HT_.out (by kernel_rfl)) ?_
         go_upto_region 11 with (fail)
         go_cut [88] (fun v88 wc=>∃ (kq:Nat) (x88_32:Bool),v88 = .bool x88_32 ∧ Aside0 (spec_CountWhen.j2 kq l1 a2 x8_2 t165 t168 x88_32 a0_0 a0_1 = some (r1,r2,r3)) ∧ Aside0 (kq ≤ k2) ∧ Aside0 (wc.heap[gb158]? = some (.cells #[.int .i64 a0_0,.int .i64 a0_1] 27 (0,0))) ∧ Aside0 (wc.heap[gb159]? = some (.cells #[.int .i64 0,.int .i64 0] 40 (0,0))) ∧ Aside0 (Below w.heap.size w wc))
         case first =>
          have H:=HC33.out
          clear HC33
          by_cases c38:t166 = true
          ·subst c38
           have H1:(spec_CountWhen.j2 k2 l1 a2 x8_2 t165 t168 (!t169) a0_0 a0_1) = some (r1,r2,r3):=by rw [if_pos rfl] at H;exact H
           clear H
           have H:=H1
           clear H1
           have H':=zM H
           clear H
           go_wp2
           go_meet
           case rel=>exact ⟨_,(!t169),(by first|rfl|(simp;done)|(simp [*];done)),H',⟨by have:=HJ3.out;have:=HK2.out;first|omega|exact Nat.le_refl _⟩,⟨by (with_reducible repeat (first|refine bA ?_ _|refine bB ?_|refine bC ?_ _));exact BK158.out⟩,⟨by (with_reducible repeat (first|refine bA ?_ _|refine bB ?_|refine bC ?_ _));exact BK159.out⟩,⟨by repeat (first|(with_reducible first|exact HB.out|apply bE|apply bD|apply bF|refine below_set ?_ GE158.out|refine below_set ?_ GE159.out)|exact HB.out)⟩⟩
          ·replace c38:=Bool.eq_false_iff.mpr c38
           subst c38
           have H1:(spec_CountWhen.j2 k2 l1 a2 x8_2 t165 t168 true a0_0 a0_1) = some (r1,r2,r3):=by rw [if_neg (show ¬ (false = true) by decide)] at H;exact H
           clear H
           have H:=H1
           clear H1
           have H':=zM H
           clear H
           go_wp2
           go_meet
           case rel=>exact ⟨_,(true),(by first|rfl|(simp;done)|(simp [*];done)),H',⟨by have:=HJ3.out;have:=HK2.out;first|omega|exact Nat.le_refl _⟩,⟨by (with_reducible repeat (first|refine bA ?_ _|refine bB ?_|refine bC ?_ _));exact BK158.out⟩,⟨by (with_reducible repeat (first|refine bA ?_ _|refine bB ?_|refine bC ?_ _));exact BK159.out⟩,⟨by repeat (first|(with_reducible first|exact HB.out|apply bE|apply bD|apply bF|refine below_set ?_ GE158.out|refine below_set ?_ GE159.out)|exact HB.out)⟩⟩
         case rest =>
          clear HC33
          try clear c1
          try clear p1
          try clear q1
          try clear hx1
          try clear qi1
          try clear c2
          try clear p2
          try clear c3
          try clear c5
          try clear p6
          try clear c8
          try clear c9
          try clear c9b0
          try clear c9b1
          try clear c10
          try clear c10b0
          try clear c11
          try clear c13
          try clear c15
          try clear c15b0
          try clear c16
          try clear c16b0
          try clear p16
          try clear q16
          try clear hx16
          try clear qi16
          try clear c17
          try clear c20
          try clear c23
          try clear c24
          try clear c25
          try clear c26
          try clear c26b0
          try clear c27
          try clear c27b0
          try clear c28
          try clear c28b0
          try clear c29
          try clear c29b0
          try clear c30
          try clear c30b0
          try clear c38
          try clear hcz12_0
          try clear hcz12_1
          try clear hcz18_0
          try clear hcz18_1
          try clear hcz21_0
          try clear hcz21_1
          try clear hcz25_0
          try clear hcz25_1
          try clear hfz12_0
          try clear hfz12_1
          try clear hfz18_0
          try clear hfz18_1
          try clear hfz21_0
          try clear hfz21_1
          try clear hfz25_0
          try clear hfz25_1
          try clear hx161_0
          try clear hx161_1
          try clear hx162_0
          try clear hx162_1
          try clear hx163_0
          try clear hx163_1
          try clear hx164_0
          try clear hx164_1
          try clear hx167_0
          try clear hx167_1
          try clear p1
          try clear p16
          try clear p161
          try clear p162
          try clear p163
          try clear p164
          try clear p167
          try clear p2
          try clear p6
          try clear q1
          try clear q16
          try clear q161
          try clear q162
          try clear q163
          try clear q164
          try clear q167
          obtain ⟨kq,x88_32,rfl,HA,HJ32,BK158,BK159,HB⟩:=hcut
          cases kq with
          | zero=>exact absurd HA.out (by simp [spec_CountWhen.j2])
          | succ kj32 =>
           have H:=HA.out
           clear HA
           simp only [spec_CountWhen.j2] at H
           by_cases c39:x88_32 = true
           ·subst c39
            have H1:(some (0,0,false)) = some (r1,r2,r3):=by rw [if_pos rfl] at H;exact H
            clear H
            have H:=H1
            clear H1
            simp only [zI,zJ] at H
            obtain ⟨rfl,rfl,rfl⟩:=H
            have hnb40:=NB159_158.out
            have hnc40:=NB158_159.out
            have hcz41_0:wc.cell? ⟨gb159,0,none⟩ = some (.int .i64 0):=(blk_cell BK159.out 0).trans rfl
            have hcz41_1:wc.cell? ⟨gb159,1,none⟩ = some (.int .i64 0):=(blk_cell BK159.out 1).trans rfl
            have hfz41_0:=blk_frozen BK159.out 0
            have hfz41_1:=blk_frozen BK159.out 1
            go_wp2
            refine bodyPost_ret (results_ct rfl _ _ gb159 40 #[.int .i64 0,.int .i64 0] (0,0) _ rfl (by (with_reducible repeat (first|refine bA ?_ _|refine bB ?_|refine bC ?_ _));refine bH (cs:=#[.int .i64 0,.int .i64 0]) ?_ 1 _ rfl;(with_reducible repeat (first|refine bA ?_ _|refine bB ?_|refine bC ?_ _));refine bH (cs:=#[.int .i64 0,.int .i64 0]) ?_ 0 _ rfl;(with_reducible repeat (first|refine bA ?_ _|refine bB ?_|refine bC ?_ _));exact BK159.out) Try.underlying40 rfl (by kernel_rfl)) rfl ?_
            exact ⟨by first|rfl|(simp [*,errW_none,errW_some] <;> rfl),by repeat (first|(with_reducible first|exact HB.out|apply bE|apply bD|apply bF|refine below_set ?_ GE158.out|refine below_set ?_ GE159.out)|exact HB.out)⟩
           ·replace c39:=Bool.eq_false_iff.mpr c39
            subst c39
            have H1:(if 0 ≤ x8_2 then (if x8_2 < (l1.length:Int) then (if (wrap64 (x8_2 + 1)) < (l1.length:Int) then (if 0 ≤ (wrap64 (x8_2 + 1)) then ((spec_LeastCount.f kj32 a0_0 a0_1 (wrap64 (((rd_T38 l1 (wrap64 (x8_2 + 1))).f0) - a2))).bind fun bt174=>((spec_MostCount.f kj32 a0_0 a0_1 (wrap64 (((rd_T38 l1 (wrap64 (x8_2 + 1))).f0) - a2))).bind fun bt176=>(if bt174.2 = true then (spec_CountWhen.j3 kj32 (wrap64 (((rd_T38 l1 x8_2).f1) + t165)) (wrap64 (((rd_T38 l1 x8_2).f1) + t168)) bt174.1 bt176.1 (!bt176.2) ((rd_T38 l1 (wrap64 (x8_2 + 1))).f0) ((rd_T38 l1 (wrap64 (x8_2 + 1))).f1)) else (spec_CountWhen.j3 kj32 (wrap64 (((rd_T38 l1 x8_2).f1) + t165)) (wrap64 (((rd_T38 l1 x8_2).f1) + t168)) bt174.1 bt176.1 true ((rd_T38 l1 (wrap64 (x8_2 + 1))).f0) ((rd_T38 l1 (wrap64 (x8_2 + 1))).f1))))) else (none)) else (if (wrap64 (((rd_T38 l1 x8_2).f1) + t165)) > (wrap64 (((rd_T38 l1 x8_2).f1) + t168)) then (some (0,0,false)) else (some (wrap64 (((rd_T38 l1 x8_2).f1) + t165),wrap64 (((rd_T38 l1 x8_2).f1) + t168),true)))) else (none)) else (none)) = some (r1,r2,r3):=by rw [if_neg (show ¬ (false = true) by decide)] at H;exact H
            clear H
            have H:=H1
            clear H1
            by_cases c42:0 ≤ x8_2
            ·rw [if_pos c42] at H
             have c42b0:decide (0 ≤ x8_2) = true:=decide_eq_true c42
             clear c42
             by_cases c43:x8_2 < (l1.length:Int)
             ·rw [if_pos c43] at H
              have c43b0:decide (x8_2 < (l1.length:Int)) = true:=decide_eq_true c43
              clear c43
              by_cases c44:(wrap64 (x8_2 + 1)) < (l1.length:Int)
              ·rw [if_pos c44] at H
               have c44b0:decide ((wrap64 (x8_2 + 1)) < (l1.length:Int)) = true:=decide_eq_true c44
               clear c44
               obtain ⟨ji45,hji45⟩:∃ j_:Int,(wrap64 (x8_2 + 1)) = j_:=⟨_,rfl⟩
               replace H:(if 0 ≤ (ji45) then ((spec_LeastCount.f kj32 a0_0 a0_1 (wrap64 (((rd_T38 l1 (ji45)).f0) - a2))).bind fun bt174=>((spec_MostCount.f kj32 a0_0 a0_1 (wrap64 (((rd_T38 l1 (ji45)).f0) - a2))).bind fun bt176=>(if bt174.2 = true then (spec_CountWhen.j3 kj32 (wrap64 (((rd_T38 l1 x8_2).f1) + t165)) (wrap64 (((rd_T38 l1 x8_2).f1) + t168)) bt174.1 bt176.1 (!bt176.2) ((rd_T38 l1 (ji45)).f0) ((rd_T38 l1 (ji45)).f1)) else (spec_CountWhen.j3 kj32 (wrap64 (((rd_T38 l1 x8_2).f1) + t165)) (wrap64 (((rd_T38 l1 x8_2).f1) + t168)) bt174.1 bt176.1 true ((rd_T38 l1 (ji45)).f0) ((rd_T38 l1 (ji45)).f1))))) else (none)) = some (r1,r2,r3):=by first|(rw [hji45] at H;exact H)|(simp only [hji45] at H ⊢;exact H)
               (try rw [hji45] at c44)
               (try rw [hji45] at c44b0)
               have hji45w:(IntKind.i64.wrap (x8_2 + 1)) = ji45:=(i64_w _).trans hji45
               by_cases c46:0 ≤ (ji45)
               ·rw [if_pos c46] at H
                have c46b0:decide (0 ≤ (ji45)) = true:=decide_eq_true c46
                clear c46
                replace H:=zO H
                obtain ⟨⟨t174,t175⟩,A470,H⟩:=H
                replace H:((spec_MostCount.f kj32 a0_0 a0_1 (wrap64 (((rd_T38 l1 (ji45)).f0) - a2))).bind fun bt176=>(if t175 = true then (spec_CountWhen.j3 kj32 (wrap64 (((rd_T38 l1 x8_2).f1) + t165)) (wrap64 (((rd_T38 l1 x8_2).f1) + t168)) t174 bt176.1 (!bt176.2) ((rd_T38 l1 (ji45)).f0) ((rd_T38 l1 (ji45)).f1)) else (spec_CountWhen.j3 kj32 (wrap64 (((rd_T38 l1 x8_2).f1) + t165)) (wrap64 (((rd_T38 l1 x8_2).f1) + t168)) t174 bt176.1 true ((rd_T38 l1 (ji45)).f0) ((rd_T38 l1 (ji45)).f1)))) = some (r1,r2,r3):=H
                have A47:=zM A470
                clear A470
                replace H:=zO H
                obtain ⟨⟨t176,t177⟩,A480,H⟩:=H
                replace H:(if t175 = true then (spec_CountWhen.j3 kj32 (wrap64 (((rd_T38 l1 x8_2).f1) + t165)) (wrap64 (((rd_T38 l1 x8_2).f1) + t168)) t174 t176 (!t177) ((rd_T38 l1 (ji45)).f0) ((rd_T38 l1 (ji45)).f1)) else (spec_CountWhen.j3 kj32 (wrap64 (((rd_T38 l1 x8_2).f1) + t165)) (wrap64 (((rd_T38 l1 x8_2).f1) + t168)) t174 t176 true ((rd_T38 l1 (ji45)).f0) ((rd_T38 l1 (ji45)).f1))) = some (r1,r2,r3):=H
                have A48:=zM A480
                clear A480
                have HC49:=zM H
                clear H
                try go_wp2
                have n0_:=zM (bB BK158.out)
                have n1_:=zM (bB BK159.out)
                have n2_:=zM (bF HB.out)
                clear BK158
                clear BK159
                clear HB
                have BK158:=n0_
                have BK159:=n1_
                have HB:=n2_
                clear n0_ n1_ n2_
                have p170:0 ≤ (x8_2:Int):=of_decide_eq_true (by first|(with_reducible assumption)|assumption)
                have q170:x8_2 < (l1.length:Int):=of_decide_eq_true (by first|(with_reducible assumption)|assumption)
                obtain ⟨ad170,e170,hx170_0,hx170_1⟩:=at_T38 HR1.out x8_2 p170 q170
                have hw170_1:=hx170_1
                have hw170_0:=hx170_0
                obtain rfl:ad164 = ad170:=(by injection e170)
                replace hx170_0:=(HB.out.cell (World.block_lt_of_cell? w _ hx170_0)).trans hx170_0
                replace hx170_1:=(HB.out.cell (World.block_lt_of_cell? w _ hx170_1)).trans hx170_1
                replace p170:=eq_true p170
                replace q170:=eq_true q170
                have p171:0 ≤ (x8_2:Int):=of_decide_eq_true (by first|(with_reducible assumption)|assumption)
                have q171:x8_2 < (l1.length:Int):=of_decide_eq_true (by first|(with_reducible assumption)|assumption)
                obtain ⟨ad171,e171,hx171_0,hx171_1⟩:=at_T38 HR1.out x8_2 p171 q171
                have hw171_1:=hx171_1
                have hw171_0:=hx171_0
                obtain rfl:ad164 = ad171:=(by injection e171)
                replace hx171_0:=(HB.out.cell (World.block_lt_of_cell? w _ hx171_0)).trans hx171_0
                replace hx171_1:=(HB.out.cell (World.block_lt_of_cell? w _ hx171_1)).trans hx171_1
                replace p171:=eq_true p171
                replace q171:=eq_true q171
                refine start_ (n:=16) (S:=fun w'=>w'.cell? (ad164.add ((x8_2).toNat * 2)) = some (.int .i64 ((rd_T38 l1 x8_2).f0)) ∧ w'.cell? ⟨(ad164.add ((x8_2).toNat * 2)).block,(ad164.add ((x8_2).toNat * 2)).off + 1,none⟩ = some (.int .i64 ((rd_T38 l1 x8_2).f1)) ∧ w'.cell? (ad164.add ((x8_2).toNat * 2)) = some (.int .i64 ((rd_T38 l1 x8_2).f0)) ∧ w'.cell? ⟨(ad164.add ((x8_2).toNat * 2)).block,(ad164.add ((x8_2).toNat * 2)).off + 1,none⟩ = some (.int .i64 ((rd_T38 l1 x8_2).f1))) (ds:=[]) #[false,false,false,false,false,false,false,false,false,false,false,false,false,false,false,false] (by kernel_rfl) rfl rfl ⟨((HB.out.cell (World.block_lt_of_cell? w _ hw170_0)).trans hw170_0),((HB.out.cell (World.block_lt_of_cell? w _ hw170_1)).trans hw170_1),((HB.out.cell (World.block_lt_of_cell? w _ hw171_0)).trans hw171_0),((HB.out.cell (World.block_lt_of_cell? w _ hw171_1)).trans hw171_1)⟩ (fun hHeld=>?_);refine with_tabW spec_CountWhen.tab13 spec_CountWhen.bits13 (fun HT_ HW_=>?_)
                generalize wc.drew = w50 at BK158 BK159 HB hx170_0 hx170_1 hx171_0 hx171_1 hHeld ⊢
                refine pure_ (i:=0) (N:=some 90) (v:=?_) (a':=?_) #[true,false,false,false,false,false,false,false,false,false,false,false,false,false,false,false] rfl rfl (any_of HT_.out (by kernel_rfl)) (fun _ _ _ h=>h) (Or.inl ⟨by rfl,?_⟩) ?_ ?_
                rotate_left
                ·intro w'
                 go_simp
                 with_reducible rfl
                rotate_left
                ·simp only [Act.put,zS,z0,z1,i64_w,i32_w]
                 rfl
                refine pure_ (i:=1) (N:=some 91) (v:=?_) (a':=?_) #[true,true,false,false,false,false,false,false,false,false,false,false,false,false,false,false] rfl rfl (any_of HT_.out (by kernel_rfl)) (fun _ _ _ h=>h) (Or.inl ⟨by rfl,?_⟩) ?_ ?_
                rotate_left
                ·intro w'
                 go_simp
                 with_reducible rfl
                rotate_left
                ·simp only [Act.put,zS,z0,z1,i64_w,i32_w]
                 rfl
                refine pure_ (i:=2) (N:=some 92) (v:=?_) (a':=?_) #[true,true,true,false,false,false,false,false,false,false,false,false,false,false,false,false] rfl rfl (any_of HT_.out (by kernel_rfl)) (fun _ _ _ h=>h) (Or.inl ⟨by rfl,?_⟩) ?_ ?_
                rotate_left
                ·intro w'
                 go_simp
                 with_reducible rfl
                rotate_left
                ·simp only [Act.put,zS,z0,z1,i64_w,i32_w]
                 rfl
                refine pure_ (i:=3) (N:=some 93) (v:=?_) (a':=?_) #[true,true,true,true,false,false,false,false,false,false,false,false,false,false,false,false] rfl rfl (any_of HT_.out (by kernel_rfl)) (fun _ _ _ h=>h) (Or.inl ⟨by rfl,?_⟩) ?_ ?_
                rotate_left
                ·intro w'
                 go_simp
                 with_reducible rfl
                rotate_left
                ·simp only [Act.put,zS,z0,z1,i64_w,i32_w]
                 rfl
                refine pure_ (i:=5) (N:=some 95) (v:=?_) (a':=?_) #[true,true,true,true,false,true,false,false,false,false,false,false,false,false,false,false] rfl rfl (any_of HT_.out (by kernel_rfl)) (fun _ _ _ h=>h) (Or.inl ⟨by rfl,?_⟩) ?_ ?_
                rotate_left
                ·intro w'
                 go_simp
                 with_reducible rfl
                rotate_left
                ·simp only [Act.put,zS,z0,z1,i64_w,i32_w]
                 rfl
                refine pure_ (i:=7) (N:=some 97) (v:=?_) (a':=?_) #[true,true,true,true,false,true,false,true,false,false,false,false,false,false,false,false] rfl rfl (any_of HT_.out (by kernel_rfl)) (fun _ _ _ h=>h) (Or.inl ⟨by rfl,?_⟩) ?_ ?_
                rotate_left
                ·intro w'
                 go_simp
                 with_reducible rfl
                rotate_left
                ·simp only [Act.put,zS,z0,z1,i64_w,i32_w]
                 rfl
                refine pure_ (i:=8) (N:=some 98) (v:=?_) (a':=?_) #[true,true,true,true,false,true,false,true,true,false,false,false,false,false,false,false] rfl rfl (any_of HT_.out (by kernel_rfl)) (fun _ _ _ h=>h) (Or.inl ⟨by rfl,?_⟩) ?_ ?_
                rotate_left
                ·intro w'
                 go_simp
                 with_reducible rfl
                rotate_left
                ·simp only [Act.put,zS,z0,z1,i64_w,i32_w]
                 rfl
                refine pure_ (i:=9) (N:=some 99) (v:=?_) (a':=?_) #[true,true,true,true,false,true,false,true,true,true,false,false,false,false,false,false] rfl rfl (any_of HT_.out (by kernel_rfl)) (fun _ _ _ h=>h) (Or.inl ⟨by rfl,?_⟩) ?_ ?_
                rotate_left
                ·intro w'
                 go_simp
                 with_reducible rfl
                rotate_left
                ·simp only [Act.put,zS,z0,z1,i64_w,i32_w]
                 rfl
                refine pure_ (i:=10) (N:=some 100) (v:=?_) (a':=?_) #[true,true,true,true,false,true,false,true,true,true,true,false,false,false,false,false] rfl rfl (any_of HT_.out (by kernel_rfl)) (fun _ _ _ h=>h) (Or.inl ⟨by rfl,?_⟩) ?_ ?_
                rotate_left
                ·intro w'
                 go_simp
                 with_reducible rfl
                rotate_left
                ·simp only [Act.put,zS,z0,z1,i64_w,i32_w]
                 rfl
                refine pure_ (i:=12) (N:=some 102) (v:=?_) (a':=?_) #[true,true,true,true,false,true,false,true,true,true,true,false,true,false,false,false] rfl rfl (any_of HT_.out (by kernel_rfl)) (fun _ _ _ h=>h) (Or.inl ⟨by rfl,?_⟩) ?_ ?_
                rotate_left
                ·intro w'
                 go_simp
                 with_reducible rfl
                rotate_left
                ·simp only [Act.put,zS,z0,z1,i64_w,i32_w]
                 rfl
                refine take_ (i:=4) (N:=some 94) (v:=?_) (a':=?_) #[true,true,true,true,true,true,false,true,true,true,true,false,true,false,false,false] rfl rfl (take_ofW HT_.out HW_.out (by kernel_rfl)) (fun _ _ _ h=>h) (Or.inl ⟨by rfl,?_⟩) hHeld ?_ ?_
                rotate_left
                ·rintro w' ⟨s0,s1,s2,s3⟩
                 go_simp
                 with_reducible rfl
                rotate_left
                ·simp only [Act.put,zS,z0,z1,i64_w,i32_w]
                 rfl
                refine pure_ (i:=6) (N:=some 96) (v:=?_) (a':=?_) #[true,true,true,true,true,true,true,true,true,true,true,false,true,false,false,false] rfl rfl (any_of HT_.out (by kernel_rfl)) (fun _ _ _ h=>h) (Or.inl ⟨by rfl,?_⟩) ?_ ?_
                rotate_left
                ·intro w'
                 go_simp
                 with_reducible rfl
                rotate_left
                ·simp only [Act.put,zS,z0,z1,i64_w,i32_w]
                 rfl
                refine pure_ (i:=14) (N:=some 14) (v:=?_) (a':=?_) #[true,true,true,true,true,true,true,true,true,true,true,false,true,false,true,false] rfl rfl (any_of HT_.out (by kernel_rfl)) (fun _ _ _ h=>h) (Or.inl ⟨by rfl,?_⟩) ?_ ?_
                rotate_left
                ·intro w'
                 go_simp
                 with_reducible rfl
                rotate_left
                ·simp only [Act.put,zS,z0,z1,i64_w,i32_w]
                 rfl
                refine take_ (i:=11) (N:=some 101) (v:=?_) (a':=?_) #[true,true,true,true,true,true,true,true,true,true,true,true,true,false,true,false] rfl rfl (take_ofW HT_.out HW_.out (by kernel_rfl)) (fun _ _ _ h=>h) (Or.inl ⟨by rfl,?_⟩) hHeld ?_ ?_
                rotate_left
                ·rintro w' ⟨s0,s1,s2,s3⟩
                 go_simp
                 with_reducible rfl
                rotate_left
                ·simp only [Act.put,zS,z0,z1,i64_w,i32_w]
                 rfl
                refine pure_ (i:=13) (N:=some 103) (v:=?_) (a':=?_) #[true,true,true,true,true,true,true,true,true,true,true,true,true,true,true,false] rfl rfl (any_of HT_.out (by kernel_rfl)) (fun _ _ _ h=>h) (Or.inl ⟨by rfl,?_⟩) ?_ ?_
                rotate_left
                ·intro w'
                 go_simp
                 with_reducible rfl
                rotate_left
                ·simp only [Act.put,zS,z0,z1,i64_w,i32_w]
                 rfl
                refine pure_ (i:=15) (N:=some 15) (v:=?_) (a':=?_) #[true,true,true,true,true,true,true,true,true,true,true,true,true,true,true,true] rfl rfl (any_of HT_.out (by kernel_rfl)) (fun _ _ _ h=>h) (Or.inl ⟨by rfl,?_⟩) ?_ ?_
                rotate_left
                ·intro w'
                 go_simp
                 with_reducible rfl
                rotate_left
                ·simp only [Act.put,zS,z0,z1,i64_w,i32_w]
                 rfl
                refine done_ (done_of HT_.out (by kernel_rfl)) ?_
                have p172:0 ≤ ((ji45):Int):=of_decide_eq_true (by first|(with_reducible assumption)|assumption)
                have q172:(ji45) < (l1.length:Int):=of_decide_eq_true (by first|(with_reducible assumption)|assumption)
                obtain ⟨ad172,e172,hx172_0,hx172_1⟩:=at_T38 HR1.out (ji45) p172 q172
                obtain rfl:ad164 = ad172:=(by injection e172)
                replace hx172_0:=(HB.out.cell (World.block_lt_of_cell? w _ hx172_0)).trans hx172_0
                replace hx172_1:=(HB.out.cell (World.block_lt_of_cell? w _ hx172_1)).trans hx172_1
                replace p172:=eq_true p172
                replace q172:=eq_true q172
                go_upto_region 18 with (first|((with_reducible refine gate_dst (N:=16) rfl ?_);(try (refine gate_guard (by rfl) ?_;dsimp only));refine box_event ?hg (N:=16) ?hd (cs:=#[.int .i64 0,.int .i64 0]) (t:=38) ?hr ?_;(case hd=>rfl);(case hg=>rfl);(case hr=>first|(go_simp;done)|(go_simp;rfl));intro gb173 hg w51 hbox hb;have n0_:=zM (blk_below (g:=gb158) (o:=.cells #[.int .i64 a0_0,.int .i64 a0_1] 27 (0,0)) (by (with_reducible repeat (first|refine bA ?_ _|refine bB ?_|refine bC ?_ _));exact BK158.out) hb);have n1_:=zM (blk_below (g:=gb159) (o:=.cells #[.int .i64 0,.int .i64 0] 40 (0,0)) (by (with_reducible repeat (first|refine bA ?_ _|refine bB ?_|refine bC ?_ _));exact BK159.out) hb);have n2_:=zM (bG (by repeat (first|(with_reducible first|exact HB.out|apply bE|apply bD|apply bF|refine below_set ?_ GE158.out|refine below_set ?_ GE159.out)|exact HB.out)) hb);have n3_:=zM (hbox);have n4_:=zM ((by rw [hg];exact (below_size (by repeat (first|(with_reducible first|exact HB.out|apply bE|apply bD|apply bF|refine below_set ?_ GE158.out|refine below_set ?_ GE159.out)|exact HB.out))):w.heap.size ≤ gb173));have n5_:=zM ((by rw [hg];exact (below_size (by repeat (first|(with_reducible first|exact HB.out|apply bE|apply bD|apply bF|refine below_set ?_ GE158.out|refine below_set ?_ GE159.out)|exact HB.out))):w.heap.size ≤ gb173));have n6_:=zM ((by rw [hg];exact Nat.ne_of_lt (blk_lt (g:=gb158) (o:=.cells #[.int .i64 a0_0,.int .i64 a0_1] 27 (0,0)) (by (with_reducible repeat (first|refine bA ?_ _|refine bB ?_|refine bC ?_ _));exact BK158.out)):gb158 ≠ gb173));have n7_:=zM ((by rw [hg];exact Nat.ne_of_gt (blk_lt (g:=gb158) (o:=.cells #[.int .i64 a0_0,.int .i64 a0_1] 27 (0,0)) (by (with_reducible repeat (first|refine bA ?_ _|refine bB ?_|refine bC ?_ _));exact BK158.out)):gb173 ≠ gb158));have n8_:=zM ((by rw [hg];exact Nat.ne_of_lt (blk_lt (g:=gb159) (o:=.cells #[.int .i64 0,.int .i64 0] 40 (0,0)) (by (with_reducible repeat (first|refine bA ?_ _|refine bB ?_|refine bC ?_ _));exact BK159.out)):gb159 ≠ gb173));have n9_:=zM ((by rw [hg];exact Nat.ne_of_gt (blk_lt (g:=gb159) (o:=.cells #[.int .i64 0,.int .i64 0] 40 (0,0)) (by (with_reducible repeat (first|refine bA ?_ _|refine bB ?_|refine bC ?_ _));exact BK159.out)):gb173 ≠ gb159));clear BK158;clear BK159;clear HB;have BK158:=n0_;have BK159:=n1_;have HB:=n2_;have BK173:=n3_;have GW173:=n4_;have GE173:=n5_;have NB158_173:=n6_;have NB173_158:=n7_;have NB159_173:=n8_;have NB173_159:=n9_;clear n0_ n1_ n2_ n3_ n4_ n5_ n6_ n7_ n8_ n9_;clear hb hbox hg;have hnb52:=NB173_158.out;have hnc52:=NB158_173.out;have hnb53:=NB173_159.out;have hnc53:=NB159_173.out;have hcz54_0:w51.cell? ⟨gb173,0,none⟩ = some (.int .i64 0):=(blk_cell BK173.out 0).trans rfl;have hcz54_1:w51.cell? ⟨gb173,1,none⟩ = some (.int .i64 0):=(blk_cell BK173.out 1).trans rfl;have hfz54_0:=blk_frozen BK173.out 0;have hfz54_1:=blk_frozen BK173.out 1;have hnb55:=NB158_159.out;have hnc55:=NB159_158.out;have hcz56_0:w51.cell? ⟨gb158,0,none⟩ = some (.int .i64 a0_0):=(blk_cell BK158.out 0).trans rfl;have hcz56_1:w51.cell? ⟨gb158,1,none⟩ = some (.int .i64 a0_1):=(blk_cell BK158.out 1).trans rfl;have hfz56_0:=blk_frozen BK158.out 0;have hfz56_1:=blk_frozen BK158.out 1)|((with_reducible refine gate_callee (f:=55) rfl ?_);refine goesL_ (some 120) rfl rfl Try.func55 (by kernel_rfl) rfl #[.agg #[.int .i64 a0_0,.int .i64 a0_1],.int .i64 (wrap64 (((rd_T38 l1 (ji45)).f0) - a2))] rfl (by (try simp only [List.map_toArray,List.map_cons,List.map_nil]);first|done|(simp only [hji45];rfl)|rfl|(simp only [List.length_drop,List.length_take];rfl)) ?_;(with_reducible refine (spec_LeastCount.calls kj32 a0_0 a0_1 (wrap64 (((rd_T38 l1 (ji45)).f0) - a2)) t174 t175 _ A47.out).mono ?_);rintro e w57 ⟨rfl,hb⟩;refine ⟨_,rfl,?_⟩;have n0_:=zM (blk_below (g:=gb158) (o:=.cells #[.int .i64 a0_0,.int .i64 a0_1] 27 (0,0)) (by (with_reducible repeat (first|refine bA ?_ _|refine bB ?_|refine bC ?_ _));refine blk_far ?_ NB158_173.out _;(with_reducible repeat (first|refine bA ?_ _|refine bB ?_|refine bC ?_ _));refine blk_far ?_ NB158_173.out _;(with_reducible repeat (first|refine bA ?_ _|refine bB ?_|refine bC ?_ _));exact BK158.out) hb);have n1_:=zM (blk_below (g:=gb159) (o:=.cells #[.int .i64 0,.int .i64 0] 40 (0,0)) (by (with_reducible repeat (first|refine bA ?_ _|refine bB ?_|refine bC ?_ _));refine blk_far ?_ NB159_173.out _;(with_reducible repeat (first|refine bA ?_ _|refine bB ?_|refine bC ?_ _));refine blk_far ?_ NB159_173.out _;(with_reducible repeat (first|refine bA ?_ _|refine bB ?_|refine bC ?_ _));exact BK159.out) hb);have n2_:=zM (blk_below (g:=gb173) (o:=.cells #[.int .i64 ((rd_T38 l1 (ji45)).f0),.int .i64 ((rd_T38 l1 (ji45)).f1)] 38 (0,0)) (by (with_reducible repeat (first|refine bA ?_ _|refine bB ?_|refine bC ?_ _));refine bH (cs:=#[.int .i64 ((rd_T38 l1 (ji45)).f0),.int .i64 0]) ?_ 1 _ rfl;(with_reducible repeat (first|refine bA ?_ _|refine bB ?_|refine bC ?_ _));refine bH (cs:=#[.int .i64 0,.int .i64 0]) ?_ 0 _ rfl;(with_reducible repeat (first|refine bA ?_ _|refine bB ?_|refine bC ?_ _));exact BK173.out) hb);have n3_:=zM (bG (by repeat (first|(with_reducible first|exact HB.out|apply bE|apply bD|apply bF|refine below_set ?_ GE158.out|refine below_set ?_ GE159.out|refine below_set ?_ GE173.out)|exact HB.out)) hb);clear BK158;clear BK159;clear BK173;clear HB;have BK158:=n0_;have BK159:=n1_;have BK173:=n2_;have HB:=n3_;clear n0_ n1_ n2_ n3_;(try clear hb);(try clear hk);(try clear hi);have hcz58_0:w57.cell? ⟨gb158,0,none⟩ = some (.int .i64 a0_0):=(blk_cell BK158.out 0).trans rfl;have hcz58_1:w57.cell? ⟨gb158,1,none⟩ = some (.int .i64 a0_1):=(blk_cell BK158.out 1).trans rfl;have hfz58_0:=blk_frozen BK158.out 0;have hfz58_1:=blk_frozen BK158.out 1;have hcz59_0:w57.cell? ⟨gb173,0,none⟩ = some (.int .i64 ((rd_T38 l1 (ji45)).f0)):=(blk_cell BK173.out 0).trans rfl;have hcz59_1:w57.cell? ⟨gb173,1,none⟩ = some (.int .i64 ((rd_T38 l1 (ji45)).f1)):=(blk_cell BK173.out 1).trans rfl;have hfz59_0:=blk_frozen BK173.out 0;have hfz59_1:=blk_frozen BK173.out 1)|((with_reducible refine gate_callee (f:=56) rfl ?_);refine goesL_ (some 129) rfl rfl Try.func56 (by kernel_rfl) rfl #[.agg #[.int .i64 a0_0,.int .i64 a0_1],.int .i64 (wrap64 (((rd_T38 l1 (ji45)).f0) - a2))] rfl (by (try simp only [List.map_toArray,List.map_cons,List.map_nil]);first|done|(simp only [hji45];rfl)|rfl|(simp only [List.length_drop,List.length_take];rfl)) ?_;(with_reducible refine (spec_MostCount.calls kj32 a0_0 a0_1 (wrap64 (((rd_T38 l1 (ji45)).f0) - a2)) t176 t177 _ A48.out).mono ?_);rintro e w60 ⟨rfl,hb⟩;refine ⟨_,rfl,?_⟩;have n0_:=zM (blk_below (g:=gb158) (o:=.cells #[.int .i64 a0_0,.int .i64 a0_1] 27 (0,0)) (by (with_reducible repeat (first|refine bA ?_ _|refine bB ?_|refine bC ?_ _));exact BK158.out) hb);have n1_:=zM (blk_below (g:=gb159) (o:=.cells #[.int .i64 0,.int .i64 0] 40 (0,0)) (by (with_reducible repeat (first|refine bA ?_ _|refine bB ?_|refine bC ?_ _));exact BK159.out) hb);have n2_:=zM (blk_below (g:=gb173) (o:=.cells #[.int .i64 ((rd_T38 l1 (ji45)).f0),.int .i64 ((rd_T38 l1 (ji45)).f1)] 38 (0,0)) (by (with_reducible repeat (first|refine bA ?_ _|refine bB ?_|refine bC ?_ _));exact BK173.out) hb);have n3_:=zM (bG (by repeat (first|(with_reducible first|exact HB.out|apply bE|apply bD|apply bF|refine below_set ?_ GE158.out|refine below_set ?_ GE159.out|refine below_set ?_ GE173.out)|exact HB.out)) hb);clear BK158;clear BK159;clear BK173;clear HB;have BK158:=n0_;have BK159:=n1_;have BK173:=n2_;have HB:=n3_;clear n0_ n1_ n2_ n3_;(try clear hb);(try clear hk);(try clear hi)))
                (try simp only [Act.put,zS,z0,z1])
                go_cut [137] (fun v137 wc=>∃ (kq:Nat) (x137_48:Bool),v137 = .bool x137_48 ∧ Aside0 (spec_CountWhen.j3 kq (wrap64 (((rd_T38 l1 x8_2).f1) + t165)) (wrap64 (((rd_T38 l1 x8_2).f1) + t168)) t174 t176 x137_48 ((rd_T38 l1 (ji45)).f0) ((rd_T38 l1 (ji45)).f1) = some (r1,r2,r3)) ∧ Aside0 (kq ≤ kj32) ∧ Aside0 (wc.heap[gb158]? = some (.cells #[.int .i64 a0_0,.int .i64 a0_1] 27 (0,0))) ∧ Aside0 (wc.heap[gb159]? = some (.cells #[.int .i64 0,.int .i64 0] 40 (0,0))) ∧ Aside0 (wc.heap[gb173]? = some (.cells #[.int .i64 ((rd_T38 l1 (ji45)).f0),.int .i64 ((rd_T38 l1 (ji45)).f1)] 38 (0,0))) ∧ Aside0 (Below w.heap.size w wc))
                case first =>
                 have H:=HC49.out
                 clear HC49
                 by_cases c61:t175 = true
                 ·subst c61
                  have H1:(spec_CountWhen.j3 kj32 (wrap64 (((rd_T38 l1 x8_2).f1) + t165)) (wrap64 (((rd_T38 l1 x8_2).f1) + t168)) t174 t176 (!t177) ((rd_T38 l1 (ji45)).f0) ((rd_T38 l1 (ji45)).f1)) = some (r1,r2,r3):=by rw [if_pos rfl] at H;exact H
                  clear H
                  have H:=H1
                  clear H1
                  have H':=zM H
                  clear H
                  go_wp2
                  go_meet
                  case rel=>exact ⟨_,(!t177),(by first|rfl|(simp;done)|(simp [*];done)),H',⟨by have:=HJ3.out;have:=HK2.out;have:=HJ32.out;first|omega|exact Nat.le_refl _⟩,⟨by (with_reducible repeat (first|refine bA ?_ _|refine bB ?_|refine bC ?_ _));exact BK158.out⟩,⟨by (with_reducible repeat (first|refine bA ?_ _|refine bB ?_|refine bC ?_ _));exact BK159.out⟩,⟨by (with_reducible repeat (first|refine bA ?_ _|refine bB ?_|refine bC ?_ _));exact BK173.out⟩,⟨by repeat (first|(with_reducible first|exact HB.out|apply bE|apply bD|apply bF|refine below_set ?_ GE158.out|refine below_set ?_ GE159.out|refine below_set ?_ GE173.out)|exact HB.out)⟩⟩
                 ·replace c61:=Bool.eq_false_iff.mpr c61
                  subst c61
                  have H1:(spec_CountWhen.j3 kj32 (wrap64 (((rd_T38 l1 x8_2).f1) + t165)) (wrap64 (((rd_T38 l1 x8_2).f1) + t168)) t174 t176 true ((rd_T38 l1 (ji45)).f0) ((rd_T38 l1 (ji45)).f1)) = some (r1,r2,r3):=by rw [if_neg (show ¬ (false = true) by decide)] at H;exact H
                  clear H
                  have H:=H1
                  clear H1
                  have H':=zM H
                  clear H
                  go_wp2
                  go_meet
                  case rel=>exact ⟨_,(true),(by first|rfl|(simp;done)|(simp [*];done)),H',⟨by have:=HJ3.out;have:=HK2.out;have:=HJ32.out;first|omega|exact Nat.le_refl _⟩,⟨by (with_reducible repeat (first|refine bA ?_ _|refine bB ?_|refine bC ?_ _));exact BK158.out⟩,⟨by (with_reducible repeat (first|refine bA ?_ _|refine bB ?_|refine bC ?_ _));exact BK159.out⟩,⟨by (with_reducible repeat (first|refine bA ?_ _|refine bB ?_|refine bC ?_ _));exact BK173.out⟩,⟨by repeat (first|(with_reducible first|exact HB.out|apply bE|apply bD|apply bF|refine below_set ?_ GE158.out|refine below_set ?_ GE159.out|refine below_set ?_ GE173.out)|exact HB.out)⟩⟩
                case rest =>
                 clear HC49
                 try clear c1
                 try clear p1
                 try clear q1
                 try clear hx1
                 try clear qi1
                 try clear c2
                 try clear p2
                 try clear c3
                 try clear c4
                 try clear c5
                 try clear c6
                 try clear p6
                 try clear c8
                 try clear c9
                 try clear c9b0
                 try clear c9b1
                 try clear c10
                 try clear c10b0
                 try clear c11
                 try clear c13
                 try clear c15
                 try clear c15b0
                 try clear c16
                 try clear c16b0
                 try clear p16
                 try clear q16
                 try clear hx16
                 try clear qi16
                 try clear c17
                 try clear p17
                 try clear q17
                 try clear hx17
                 try clear c20
                 try clear c23
                 try clear c24
                 try clear c25
                 try clear c26
                 try clear c26b0
                 try clear c27
                 try clear c27b0
                 try clear c28
                 try clear c28b0
                 try clear c29
                 try clear c29b0
                 try clear c30
                 try clear c30b0
                 try clear c38
                 try clear c39
                 try clear c40
                 try clear c42
                 try clear c42b0
                 try clear c43
                 try clear c43b0
                 try clear c44
                 try clear c44b0
                 try clear c46
                 try clear c46b0
                 try clear c52
                 try clear c53
                 try clear c55
                 try clear c56
                 try clear c61
                 try clear hcz12_0
                 try clear hcz12_1
                 try clear hcz18_0
                 try clear hcz18_1
                 try clear hcz21_0
                 try clear hcz21_1
                 try clear hcz25_0
                 try clear hcz25_1
                 try clear hcz41_0
                 try clear hcz41_1
                 try clear hcz54_0
                 try clear hcz54_1
                 try clear hcz56_0
                 try clear hcz56_1
                 try clear hcz58_0
                 try clear hcz58_1
                 try clear hcz59_0
                 try clear hcz59_1
                 try clear hfz12_0
                 try clear hfz12_1
                 try clear hfz18_0
                 try clear hfz18_1
                 try clear hfz21_0
                 try clear hfz21_1
                 try clear hfz25_0
                 try clear hfz25_1
                 try clear hfz41_0
                 try clear hfz41_1
                 try clear hfz54_0
                 try clear hfz54_1
                 try clear hfz56_0
                 try clear hfz56_1
                 try clear hfz58_0
                 try clear hfz58_1
                 try clear hfz59_0
                 try clear hfz59_1
                 try clear hx161_0
                 try clear hx161_1
                 try clear hx162_0
                 try clear hx162_1
                 try clear hx163_0
                 try clear hx163_1
                 try clear hx164_0
                 try clear hx164_1
                 try clear hx167_0
                 try clear hx167_1
                 try clear hx170_0
                 try clear hx170_1
                 try clear hx171_0
                 try clear hx171_1
                 try clear hx172_0
                 try clear hx172_1
                 try clear p1
                 try clear p16
                 try clear p161
                 try clear p162
                 try clear p163
                 try clear p164
                 try clear p167
                 try clear p170
                 try clear p171
                 try clear p172
                 try clear p2
                 try clear p6
                 try clear q1
                 try clear q16
                 try clear q161
                 try clear q162
                 try clear q163
                 try clear q164
                 try clear q167
                 try clear q170
                 try clear q171
                 try clear q172
                 obtain ⟨kq,x137_48,rfl,HA,HJ48,BK158,BK159,BK173,HB⟩:=hcut
                 cases kq with
                 | zero=>exact absurd HA.out (by simp [spec_CountWhen.j3])
                 | succ kj48 =>
                  have H:=HA.out
                  clear HA
                  simp only [spec_CountWhen.j3] at H
                  by_cases c62:x137_48 = true
                  ·subst c62
                   have H1:(some (0,0,false)) = some (r1,r2,r3):=by rw [if_pos rfl] at H;exact H
                   clear H
                   have H:=H1
                   clear H1
                   simp only [zI,zJ] at H
                   obtain ⟨rfl,rfl,rfl⟩:=H
                   have hnb63:=NB159_158.out
                   have hnc63:=NB158_159.out
                   have hnb64:=NB159_173.out
                   have hnc64:=NB173_159.out
                   have hcz65_0:wc.cell? ⟨gb159,0,none⟩ = some (.int .i64 0):=(blk_cell BK159.out 0).trans rfl
                   have hcz65_1:wc.cell? ⟨gb159,1,none⟩ = some (.int .i64 0):=(blk_cell BK159.out 1).trans rfl
                   have hfz65_0:=blk_frozen BK159.out 0
                   have hfz65_1:=blk_frozen BK159.out 1
                   go_wp2
                   refine bodyPost_ret (results_ct rfl _ _ gb159 40 #[.int .i64 0,.int .i64 0] (0,0) _ rfl (by (with_reducible repeat (first|refine bA ?_ _|refine bB ?_|refine bC ?_ _));refine bH (cs:=#[.int .i64 0,.int .i64 0]) ?_ 1 _ rfl;(with_reducible repeat (first|refine bA ?_ _|refine bB ?_|refine bC ?_ _));refine bH (cs:=#[.int .i64 0,.int .i64 0]) ?_ 0 _ rfl;(with_reducible repeat (first|refine bA ?_ _|refine bB ?_|refine bC ?_ _));exact BK159.out) Try.underlying40 rfl (by kernel_rfl)) rfl ?_
                   exact ⟨by first|rfl|(simp only [← hji45];first|rfl|(simp [errW_none,errW_some] <;> rfl))|(simp [*,errW_none,errW_some] <;> rfl),by repeat (first|(with_reducible first|exact HB.out|apply bE|apply bD|apply bF|refine below_set ?_ GE158.out|refine below_set ?_ GE159.out|refine below_set ?_ GE173.out)|exact HB.out)⟩
                  ·replace c62:=Bool.eq_false_iff.mpr c62
                   subst c62
                   have H1:((spec_l1Max.f (wrap64 (((rd_T38 l1 x8_2).f1) + t165)) (wrap64 (((rd_T38 l1 (ji45)).f1) - t176))).bind fun t178=>((spec_l1Min.f (wrap64 (((rd_T38 l1 x8_2).f1) + t168)) (wrap64 (((rd_T38 l1 (ji45)).f1) - t174))).bind fun t179=>(if t178 > t179 then (some (0,0,false)) else (some (t178,t179,true))))) = some (r1,r2,r3):=by rw [if_neg (show ¬ (false = true) by decide)] at H;exact H
                   clear H
                   have H:=H1
                   clear H1
                   replace H:=zO H
                   obtain ⟨t178,A660,H⟩:=H
                   replace H:((spec_l1Min.f (wrap64 (((rd_T38 l1 x8_2).f1) + t168)) (wrap64 (((rd_T38 l1 (ji45)).f1) - t174))).bind fun t179=>(if t178 > t179 then (some (0,0,false)) else (some (t178,t179,true)))) = some (r1,r2,r3):=H
                   have A66:=zM A660
                   clear A660
                   replace H:=zO H
                   obtain ⟨t179,A670,H⟩:=H
                   replace H:(if t178 > t179 then (some (0,0,false)) else (some (t178,t179,true))) = some (r1,r2,r3):=H
                   have A67:=zM A670
                   clear A670
                   by_cases c68:t178 > t179
                   ·rw [if_pos c68] at H
                    have c68b0:decide (t179 < t178) = true:=decide_eq_true c68
                    clear c68
                    simp only [zI,zJ] at H
                    obtain ⟨rfl,rfl,rfl⟩:=H
                    try go_wp2
                    have n0_:=zM (bB BK158.out)
                    have n1_:=zM (bB BK159.out)
                    have n2_:=zM (bB BK173.out)
                    have n3_:=zM (bF HB.out)
                    clear BK158
                    clear BK159
                    clear BK173
                    clear HB
                    have BK158:=n0_
                    have BK159:=n1_
                    have BK173:=n2_
                    have HB:=n3_
                    clear n0_ n1_ n2_ n3_
                    refine start_ (n:=14) (S:=fun w'=>w'.cell? ⟨gb173,0,none⟩ = some (.int .i64 ((rd_T38 l1 (ji45)).f0)) ∧ w'.cell? ⟨gb173,1,none⟩ = some (.int .i64 ((rd_T38 l1 (ji45)).f1))) (ds:=[]) #[false,false,false,false,false,false,false,false,false,false,false,false,false,false] (by kernel_rfl) rfl rfl ⟨(blk_cell BK173.out 0).trans rfl,(blk_cell BK173.out 1).trans rfl⟩ (fun hHeld=>?_);refine with_tabW spec_CountWhen.tab20 spec_CountWhen.bits20 (fun HT_ HW_=>?_)
                    generalize wc.drew = w69 at BK158 BK159 BK173 HB hHeld ⊢
                    refine pure_ (i:=0) (N:=some 139) (v:=?_) (a':=?_) #[true,false,false,false,false,false,false,false,false,false,false,false,false,false] rfl rfl (any_of HT_.out (by kernel_rfl)) (fun _ _ _ h=>h) (Or.inl ⟨by rfl,?_⟩) ?_ ?_
                    rotate_left
                    ·intro w'
                     go_simp
                     with_reducible rfl
                    rotate_left
                    ·simp only [Act.put,zS,z0,z1,i64_w,i32_w]
                     rfl
                    refine pure_ (i:=1) (N:=some 140) (v:=?_) (a':=?_) #[true,true,false,false,false,false,false,false,false,false,false,false,false,false] rfl rfl (any_of HT_.out (by kernel_rfl)) (fun _ _ _ h=>h) (Or.inl ⟨by rfl,?_⟩) ?_ ?_
                    rotate_left
                    ·intro w'
                     go_simp
                     with_reducible rfl
                    rotate_left
                    ·simp only [Act.put,zS,z0,z1,i64_w,i32_w]
                     rfl
                    refine pure_ (i:=3) (N:=some 142) (v:=?_) (a':=?_) #[true,true,false,true,false,false,false,false,false,false,false,false,false,false] rfl rfl (any_of HT_.out (by kernel_rfl)) (fun _ _ _ h=>h) (Or.inl ⟨by rfl,?_⟩) ?_ ?_
                    rotate_left
                    ·intro w'
                     go_simp
                     with_reducible rfl
                    rotate_left
                    ·simp only [Act.put,zS,z0,z1,i64_w,i32_w]
                     rfl
                    refine pure_ (i:=6) (N:=some 145) (v:=?_) (a':=?_) #[true,true,false,true,false,false,true,false,false,false,false,false,false,false] rfl rfl (any_of HT_.out (by kernel_rfl)) (fun _ _ _ h=>h) (Or.inl ⟨by rfl,?_⟩) ?_ ?_
                    rotate_left
                    ·intro w'
                     go_simp
                     with_reducible rfl
                    rotate_left
                    ·simp only [Act.put,zS,z0,z1,i64_w,i32_w]
                     rfl
                    refine pure_ (i:=7) (N:=some 146) (v:=?_) (a':=?_) #[true,true,false,true,false,false,true,true,false,false,false,false,false,false] rfl rfl (any_of HT_.out (by kernel_rfl)) (fun _ _ _ h=>h) (Or.inl ⟨by rfl,?_⟩) ?_ ?_
                    rotate_left
                    ·intro w'
                     go_simp
                     with_reducible rfl
                    rotate_left
                    ·simp only [Act.put,zS,z0,z1,i64_w,i32_w]
                     rfl
                    refine pure_ (i:=9) (N:=some 148) (v:=?_) (a':=?_) #[true,true,false,true,false,false,true,true,false,true,false,false,false,false] rfl rfl (any_of HT_.out (by kernel_rfl)) (fun _ _ _ h=>h) (Or.inl ⟨by rfl,?_⟩) ?_ ?_
                    rotate_left
                    ·intro w'
                     go_simp
                     with_reducible rfl
                    rotate_left
                    ·simp only [Act.put,zS,z0,z1,i64_w,i32_w]
                     rfl
                    refine take_ (i:=2) (N:=some 141) (v:=?_) (a':=?_) #[true,true,true,true,false,false,true,true,false,true,false,false,false,false] rfl rfl (take_ofW HT_.out HW_.out (by kernel_rfl)) (fun _ _ _ h=>h) (Or.inl ⟨by rfl,?_⟩) hHeld ?_ ?_
                    rotate_left
                    ·rintro w' ⟨s0,s1⟩
                     go_simp
                     with_reducible rfl
                    rotate_left
                    ·simp only [Act.put,zS,z0,z1,i64_w,i32_w]
                     rfl
                    refine pure_ (i:=4) (N:=some 143) (v:=?_) (a':=?_) #[true,true,true,true,true,false,true,true,false,true,false,false,false,false] rfl rfl (any_of HT_.out (by kernel_rfl)) (fun _ _ _ h=>h) (Or.inl ⟨by rfl,?_⟩) ?_ ?_
                    rotate_left
                    ·intro w'
                     go_simp
                     with_reducible rfl
                    rotate_left
                    ·simp only [Act.put,zS,z0,z1,i64_w,i32_w]
                     rfl
                    refine take_ (i:=8) (N:=some 147) (v:=?_) (a':=?_) #[true,true,true,true,true,false,true,true,true,true,false,false,false,false] rfl rfl (take_ofW HT_.out HW_.out (by kernel_rfl)) (fun _ _ _ h=>h) (Or.inl ⟨by rfl,?_⟩) hHeld ?_ ?_
                    rotate_left
                    ·rintro w' ⟨s0,s1⟩
                     go_simp
                     with_reducible rfl
                    rotate_left
                    ·simp only [Act.put,zS,z0,z1,i64_w,i32_w]
                     rfl
                    refine pure_ (i:=10) (N:=some 149) (v:=?_) (a':=?_) #[true,true,true,true,true,false,true,true,true,true,true,false,false,false] rfl rfl (any_of HT_.out (by kernel_rfl)) (fun _ _ _ h=>h) (Or.inl ⟨by rfl,?_⟩) ?_ ?_
                    rotate_left
                    ·intro w'
                     go_simp
                     with_reducible rfl
                    rotate_left
                    ·simp only [Act.put,zS,z0,z1,i64_w,i32_w]
                     rfl
                    refine one_ (i:=5) (N:=some 144) #[true,true,true,true,true,true,true,true,true,true,true,false,false,false] rfl rfl (one_of HT_.out (by kernel_rfl)) (by decide) (fun K hK=>?_)
                    refine goes_ Try.func57 (by kernel_rfl) rfl #[.int .i64 (wrap64 (((rd_T38 l1 x8_2).f1) + t165)),.int .i64 (wrap64 (((rd_T38 l1 (ji45)).f1) - t176))] (by rfl) rfl rfl (by (try simp only [List.map_toArray,List.map_cons,List.map_nil]);first|done|(simp only [hji45];rfl)|rfl|(simp only [List.length_drop,List.length_take];rfl)) ?_
                    with_reducible refine (spec_l1Max.calls (wrap64 (((rd_T38 l1 x8_2).f1) + t165)) (wrap64 (((rd_T38 l1 (ji45)).f1) - t176)) t178 _ A66.out).mono ?_
                    rintro e w' ⟨rfl,⟨nd,rfl⟩⟩
                    refine ⟨_,rfl,?_⟩
                    refine hK.out _ _ ⟨(blk_cell BK173.out 0).trans rfl,(blk_cell BK173.out 1).trans rfl⟩ (fun hHeld=>?_)
                    clear hK K
                    refine norm_ (a':=?_) ?_ ?_
                    rotate_left
                    ·show Act.put _ (some 144) _ = _
                     simp only [Act.put,zS,z0,z1,i64_w,i32_w]
                     rfl
                    refine one_ (i:=11) (N:=some 150) #[true,true,true,true,true,true,true,true,true,true,true,true,false,false] rfl rfl (one_of HT_.out (by kernel_rfl)) (by decide) (fun K hK=>?_)
                    refine goes_ Try.func58 (by kernel_rfl) rfl #[.int .i64 (wrap64 (((rd_T38 l1 x8_2).f1) + t168)),.int .i64 (wrap64 (((rd_T38 l1 (ji45)).f1) - t174))] (by rfl) rfl rfl (by (try simp only [List.map_toArray,List.map_cons,List.map_nil]);first|done|(simp only [hji45];rfl)|rfl|(simp only [List.length_drop,List.length_take];rfl)) ?_
                    with_reducible refine (spec_l1Min.calls (wrap64 (((rd_T38 l1 x8_2).f1) + t168)) (wrap64 (((rd_T38 l1 (ji45)).f1) - t174)) t179 _ A67.out).mono ?_
                    rintro e w' ⟨rfl,⟨nd,rfl⟩⟩
                    refine ⟨_,rfl,?_⟩
                    refine hK.out _ _ ⟨(blk_cell BK173.out 0).trans rfl,(blk_cell BK173.out 1).trans rfl⟩ (fun hHeld=>?_)
                    clear hK K
                    refine norm_ (a':=?_) ?_ ?_
                    rotate_left
                    ·show Act.put _ (some 150) _ = _
                     simp only [Act.put,zS,z0,z1,i64_w,i32_w]
                     rfl
                    refine pure_ (i:=12) (N:=some 14) (v:=?_) (a':=?_) #[true,true,true,true,true,true,true,true,true,true,true,true,true,false] rfl rfl (any_of HT_.out (by kernel_rfl)) (fun _ _ _ h=>h) (Or.inl ⟨by rfl,?_⟩) ?_ ?_
                    rotate_left
                    ·intro w'
                     go_simp
                     with_reducible rfl
                    rotate_left
                    ·simp only [Act.put,zS,z0,z1,i64_w,i32_w]
                     rfl
                    refine pure_ (i:=13) (N:=some 15) (v:=?_) (a':=?_) #[true,true,true,true,true,true,true,true,true,true,true,true,true,true] rfl rfl (any_of HT_.out (by kernel_rfl)) (fun _ _ _ h=>h) (Or.inl ⟨by rfl,?_⟩) ?_ ?_
                    rotate_left
                    ·intro w'
                     go_simp
                     with_reducible rfl
                    rotate_left
                    ·simp only [Act.put,zS,z0,z1,i64_w,i32_w]
                     rfl
                    refine done_ (done_of HT_.out (by kernel_rfl)) ?_
                    have hnb70:=NB159_158.out
                    have hnc70:=NB158_159.out
                    have hnb71:=NB159_173.out
                    have hnc71:=NB173_159.out
                    have hcz72_0:w69.cell? ⟨gb159,0,none⟩ = some (.int .i64 0):=(blk_cell BK159.out 0).trans rfl
                    have hcz72_1:w69.cell? ⟨gb159,1,none⟩ = some (.int .i64 0):=(blk_cell BK159.out 1).trans rfl
                    have hfz72_0:=blk_frozen BK159.out 0
                    have hfz72_1:=blk_frozen BK159.out 1
                    try go_wp2
                    refine bodyPost_ret (results_ct rfl _ _ gb159 40 #[.int .i64 0,.int .i64 0] (0,0) _ rfl (by (with_reducible repeat (first|refine bA ?_ _|refine bB ?_|refine bC ?_ _));refine bH (cs:=#[.int .i64 0,.int .i64 0]) ?_ 1 _ rfl;(with_reducible repeat (first|refine bA ?_ _|refine bB ?_|refine bC ?_ _));refine bH (cs:=#[.int .i64 0,.int .i64 0]) ?_ 0 _ rfl;(with_reducible repeat (first|refine bA ?_ _|refine bB ?_|refine bC ?_ _));exact BK159.out) Try.underlying40 rfl (by kernel_rfl)) rfl ?_
                    exact ⟨by first|rfl|(simp only [← hji45];first|rfl|(simp [errW_none,errW_some] <;> rfl))|(simp [*,errW_none,errW_some] <;> rfl),by repeat (first|(with_reducible first|exact HB.out|apply bE|apply bD|apply bF|refine below_set ?_ GE158.out|refine below_set ?_ GE159.out|refine below_set ?_ GE173.out)|exact HB.out)⟩
                   ·rw [if_neg c68] at H
                    have c68b0:decide (t179 < t178) = false:=decide_eq_false c68
                    clear c68
                    simp only [zI,zJ] at H
                    obtain ⟨rfl,rfl,rfl⟩:=H
                    try go_wp2
                    have n0_:=zM (bB BK158.out)
                    have n1_:=zM (bB BK159.out)
                    have n2_:=zM (bB BK173.out)
                    have n3_:=zM (bF HB.out)
                    clear BK158
                    clear BK159
                    clear BK173
                    clear HB
                    have BK158:=n0_
                    have BK159:=n1_
                    have BK173:=n2_
                    have HB:=n3_
                    clear n0_ n1_ n2_ n3_
                    refine start_ (n:=14) (S:=fun w'=>w'.cell? ⟨gb173,0,none⟩ = some (.int .i64 ((rd_T38 l1 (ji45)).f0)) ∧ w'.cell? ⟨gb173,1,none⟩ = some (.int .i64 ((rd_T38 l1 (ji45)).f1))) (ds:=[]) #[false,false,false,false,false,false,false,false,false,false,false,false,false,false] (by kernel_rfl) rfl rfl ⟨(blk_cell BK173.out 0).trans rfl,(blk_cell BK173.out 1).trans rfl⟩ (fun hHeld=>?_);refine with_tabW spec_CountWhen.tab20 spec_CountWhen.bits20 (fun HT_ HW_=>?_)
                    generalize wc.drew = w73 at BK158 BK159 BK173 HB hHeld ⊢
                    refine pure_ (i:=0) (N:=some 139) (v:=?_) (a':=?_) #[true,false,false,false,false,false,false,false,false,false,false,false,false,false] rfl rfl (any_of HT_.out (by kernel_rfl)) (fun _ _ _ h=>h) (Or.inl ⟨by rfl,?_⟩) ?_ ?_
                    rotate_left
                    ·intro w'
                     go_simp
                     with_reducible rfl
                    rotate_left
                    ·simp only [Act.put,zS,z0,z1,i64_w,i32_w]
                     rfl
                    refine pure_ (i:=1) (N:=some 140) (v:=?_) (a':=?_) #[true,true,false,false,false,false,false,false,false,false,false,false,false,false] rfl rfl (any_of HT_.out (by kernel_rfl)) (fun _ _ _ h=>h) (Or.inl ⟨by rfl,?_⟩) ?_ ?_
                    rotate_left
                    ·intro w'
                     go_simp
                     with_reducible rfl
                    rotate_left
                    ·simp only [Act.put,zS,z0,z1,i64_w,i32_w]
                     rfl
                    refine pure_ (i:=3) (N:=some 142) (v:=?_) (a':=?_) #[true,true,false,true,false,false,false,false,false,false,false,false,false,false] rfl rfl (any_of HT_.out (by kernel_rfl)) (fun _ _ _ h=>h) (Or.inl ⟨by rfl,?_⟩) ?_ ?_
                    rotate_left
                    ·intro w'
                     go_simp
                     with_reducible rfl
                    rotate_left
                    ·simp only [Act.put,zS,z0,z1,i64_w,i32_w]
                     rfl
                    refine pure_ (i:=6) (N:=some 145) (v:=?_) (a':=?_) #[true,true,false,true,false,false,true,false,false,false,false,false,false,false] rfl rfl (any_of HT_.out (by kernel_rfl)) (fun _ _ _ h=>h) (Or.inl ⟨by rfl,?_⟩) ?_ ?_
                    rotate_left
                    ·intro w'
                     go_simp
                     with_reducible rfl
                    rotate_left
                    ·simp only [Act.put,zS,z0,z1,i64_w,i32_w]
                     rfl
                    refine pure_ (i:=7) (N:=some 146) (v:=?_) (a':=?_) #[true,true,false,true,false,false,true,true,false,false,false,false,false,false] rfl rfl (any_of HT_.out (by kernel_rfl)) (fun _ _ _ h=>h) (Or.inl ⟨by rfl,?_⟩) ?_ ?_
                    rotate_left
                    ·intro w'
                     go_simp
                     with_reducible rfl
                    rotate_left
                    ·simp only [Act.put,zS,z0,z1,i64_w,i32_w]
                     rfl
                    refine pure_ (i:=9) (N:=some 148) (v:=?_) (a':=?_) #[true,true,false,true,false,false,true,true,false,true,false,false,false,false] rfl rfl (any_of HT_.out (by kernel_rfl)) (fun _ _ _ h=>h) (Or.inl ⟨by rfl,?_⟩) ?_ ?_
                    rotate_left
                    ·intro w'
                     go_simp
                     with_reducible rfl
                    rotate_left
                    ·simp only [Act.put,zS,z0,z1,i64_w,i32_w]
                     rfl
                    refine take_ (i:=2) (N:=some 141) (v:=?_) (a':=?_) #[true,true,true,true,false,false,true,true,false,true,false,false,false,false] rfl rfl (take_ofW HT_.out HW_.out (by kernel_rfl)) (fun _ _ _ h=>h) (Or.inl ⟨by rfl,?_⟩) hHeld ?_ ?_
                    rotate_left
                    ·rintro w' ⟨s0,s1⟩
                     go_simp
                     with_reducible rfl
                    rotate_left
                    ·simp only [Act.put,zS,z0,z1,i64_w,i32_w]
                     rfl
                    refine pure_ (i:=4) (N:=some 143) (v:=?_) (a':=?_) #[true,true,true,true,true,false,true,true,false,true,false,false,false,false] rfl rfl (any_of HT_.out (by kernel_rfl)) (fun _ _ _ h=>h) (Or.inl ⟨by rfl,?_⟩) ?_ ?_
                    rotate_left
                    ·intro w'
                     go_simp
                     with_reducible rfl
                    rotate_left
                    ·simp only [Act.put,zS,z0,z1,i64_w,i32_w]
                     rfl
                    refine take_ (i:=8) (N:=some 147) (v:=?_) (a':=?_) #[true,true,true,true,true,false,true,true,true,true,false,false,false,false] rfl rfl (take_ofW HT_.out HW_.out (by kernel_rfl)) (fun _ _ _ h=>h) (Or.inl ⟨by rfl,?_⟩) hHeld ?_ ?_
                    rotate_left
                    ·rintro w' ⟨s0,s1⟩
                     go_simp
                     with_reducible rfl
                    rotate_left
                    ·simp only [Act.put,zS,z0,z1,i64_w,i32_w]
                     rfl
                    refine pure_ (i:=10) (N:=some 149) (v:=?_) (a':=?_) #[true,true,true,true,true,false,true,true,true,true,true,false,false,false] rfl rfl (any_of HT_.out (by kernel_rfl)) (fun _ _ _ h=>h) (Or.inl ⟨by rfl,?_⟩) ?_ ?_
                    rotate_left
                    ·intro w'
                     go_simp
                     with_reducible rfl
                    rotate_left
                    ·simp only [Act.put,zS,z0,z1,i64_w,i32_w]
                     rfl
                    refine one_ (i:=5) (N:=some 144) #[true,true,true,true,true,true,true,true,true,true,true,false,false,false] rfl rfl (one_of HT_.out (by kernel_rfl)) (by decide) (fun K hK=>?_)
                    refine goes_ Try.func57 (by kernel_rfl) rfl #[.int .i64 (wrap64 (((rd_T38 l1 x8_2).f1) + t165)),.int .i64 (wrap64 (((rd_T38 l1 (ji45)).f1) - t176))] (by rfl) rfl rfl (by (try simp only [List.map_toArray,List.map_cons,List.map_nil]);first|done|(simp only [hji45];rfl)|rfl|(simp only [List.length_drop,List.length_take];rfl)) ?_
                    with_reducible refine (spec_l1Max.calls (wrap64 (((rd_T38 l1 x8_2).f1) + t165)) (wrap64 (((rd_T38 l1 (ji45)).f1) - t176)) t178 _ A66.out).mono ?_
                    rintro e w' ⟨rfl,⟨nd,rfl⟩⟩
                    refine ⟨_,rfl,?_⟩
                    refine hK.out _ _ ⟨(blk_cell BK173.out 0).trans rfl,(blk_cell BK173.out 1).trans rfl⟩ (fun hHeld=>?_)
                    clear hK K
                    refine norm_ (a':=?_) ?_ ?_
                    rotate_left
                    ·show Act.put _ (some 144) _ = _
                     simp only [Act.put,zS,z0,z1,i64_w,i32_w]
                     rfl
                    refine one_ (i:=11) (N:=some 150) #[true,true,true,true,true,true,true,true,true,true,true,true,false,false] rfl rfl (one_of HT_.out (by kernel_rfl)) (by decide) (fun K hK=>?_)
                    refine goes_ Try.func58 (by kernel_rfl) rfl #[.int .i64 (wrap64 (((rd_T38 l1 x8_2).f1) + t168)),.int .i64 (wrap64 (((rd_T38 l1 (ji45)).f1) - t174))] (by rfl) rfl rfl (by (try simp only [List.map_toArray,List.map_cons,List.map_nil]);first|done|(simp only [hji45];rfl)|rfl|(simp only [List.length_drop,List.length_take];rfl)) ?_
                    with_reducible refine (spec_l1Min.calls (wrap64 (((rd_T38 l1 x8_2).f1) + t168)) (wrap64 (((rd_T38 l1 (ji45)).f1) - t174)) t179 _ A67.out).mono ?_
                    rintro e w' ⟨rfl,⟨nd,rfl⟩⟩
                    refine ⟨_,rfl,?_⟩
                    refine hK.out _ _ ⟨(blk_cell BK173.out 0).trans rfl,(blk_cell BK173.out 1).trans rfl⟩ (fun hHeld=>?_)
                    clear hK K
                    refine norm_ (a':=?_) ?_ ?_
                    rotate_left
                    ·show Act.put _ (some 150) _ = _
                     simp only [Act.put,zS,z0,z1,i64_w,i32_w]
                     rfl
                    refine pure_ (i:=12) (N:=some 14) (v:=?_) (a':=?_) #[true,true,true,true,true,true,true,true,true,true,true,true,true,false] rfl rfl (any_of HT_.out (by kernel_rfl)) (fun _ _ _ h=>h) (Or.inl ⟨by rfl,?_⟩) ?_ ?_
                    rotate_left
                    ·intro w'
                     go_simp
                     with_reducible rfl
                    rotate_left
                    ·simp only [Act.put,zS,z0,z1,i64_w,i32_w]
                     rfl
                    refine pure_ (i:=13) (N:=some 15) (v:=?_) (a':=?_) #[true,true,true,true,true,true,true,true,true,true,true,true,true,true] rfl rfl (any_of HT_.out (by kernel_rfl)) (fun _ _ _ h=>h) (Or.inl ⟨by rfl,?_⟩) ?_ ?_
                    rotate_left
                    ·intro w'
                     go_simp
                     with_reducible rfl
                    rotate_left
                    ·simp only [Act.put,zS,z0,z1,i64_w,i32_w]
                     rfl
                    refine done_ (done_of HT_.out (by kernel_rfl)) ?_
                    have hnb74:=NB159_158.out
                    have hnc74:=NB158_159.out
                    have hnb75:=NB159_173.out
                    have hnc75:=NB173_159.out
                    have hcz76_0:w73.cell? ⟨gb159,0,none⟩ = some (.int .i64 0):=(blk_cell BK159.out 0).trans rfl
                    have hcz76_1:w73.cell? ⟨gb159,1,none⟩ = some (.int .i64 0):=(blk_cell BK159.out 1).trans rfl
                    have hfz76_0:=blk_frozen BK159.out 0
                    have hfz76_1:=blk_frozen BK159.out 1
                    try go_wp2
                    refine bodyPost_ret (results_ct rfl _ _ gb159 40 #[.int .i64 t178,.int .i64 t179] (0,0) _ rfl (by (with_reducible repeat (first|refine bA ?_ _|refine bB ?_|refine bC ?_ _));refine bH (cs:=#[.int .i64 t178,.int .i64 0]) ?_ 1 _ rfl;(with_reducible repeat (first|refine bA ?_ _|refine bB ?_|refine bC ?_ _));refine bH (cs:=#[.int .i64 0,.int .i64 0]) ?_ 0 _ rfl;(with_reducible repeat (first|refine bA ?_ _|refine bB ?_|refine bC ?_ _));exact BK159.out) Try.underlying40 rfl (by kernel_rfl)) rfl ?_
                    exact ⟨by first|rfl|(simp only [← hji45];first|rfl|(simp [errW_none,errW_some] <;> rfl))|(simp [*,errW_none,errW_some] <;> rfl),by repeat (first|(with_reducible first|exact HB.out|apply bE|apply bD|apply bF|refine below_set ?_ GE158.out|refine below_set ?_ GE159.out|refine below_set ?_ GE173.out)|exact HB.out)⟩
               ·rw [if_neg c46] at H
                exact absurd H (by simp)
              ·rw [if_neg c44] at H
               have c44b0:decide ((wrap64 (x8_2 + 1)) < (l1.length:Int)) = false:=decide_eq_false c44
               clear c44
               by_cases c77:(wrap64 (((rd_T38 l1 x8_2).f1) + t165)) > (wrap64 (((rd_T38 l1 x8_2).f1) + t168))
               ·rw [if_pos c77] at H
                have c77b0:decide ((wrap64 (((rd_T38 l1 x8_2).f1) + t168)) < (wrap64 (((rd_T38 l1 x8_2).f1) + t165))) = true:=decide_eq_true c77
                clear c77
                simp only [zI,zJ] at H
                obtain ⟨rfl,rfl,rfl⟩:=H
                try go_wp2
                have n0_:=zM (bB BK158.out)
                have n1_:=zM (bB BK159.out)
                have n2_:=zM (bF HB.out)
                clear BK158
                clear BK159
                clear HB
                have BK158:=n0_
                have BK159:=n1_
                have HB:=n2_
                clear n0_ n1_ n2_
                have p170:0 ≤ (x8_2:Int):=of_decide_eq_true (by first|(with_reducible assumption)|assumption)
                have q170:x8_2 < (l1.length:Int):=of_decide_eq_true (by first|(with_reducible assumption)|assumption)
                obtain ⟨ad170,e170,hx170_0,hx170_1⟩:=at_T38 HR1.out x8_2 p170 q170
                have hw170_1:=hx170_1
                have hw170_0:=hx170_0
                obtain rfl:ad164 = ad170:=(by injection e170)
                replace hx170_0:=(HB.out.cell (World.block_lt_of_cell? w _ hx170_0)).trans hx170_0
                replace hx170_1:=(HB.out.cell (World.block_lt_of_cell? w _ hx170_1)).trans hx170_1
                replace p170:=eq_true p170
                replace q170:=eq_true q170
                have p171:0 ≤ (x8_2:Int):=of_decide_eq_true (by first|(with_reducible assumption)|assumption)
                have q171:x8_2 < (l1.length:Int):=of_decide_eq_true (by first|(with_reducible assumption)|assumption)
                obtain ⟨ad171,e171,hx171_0,hx171_1⟩:=at_T38 HR1.out x8_2 p171 q171
                have hw171_1:=hx171_1
                have hw171_0:=hx171_0
                obtain rfl:ad164 = ad171:=(by injection e171)
                replace hx171_0:=(HB.out.cell (World.block_lt_of_cell? w _ hx171_0)).trans hx171_0
                replace hx171_1:=(HB.out.cell (World.block_lt_of_cell? w _ hx171_1)).trans hx171_1
                replace p171:=eq_true p171
                replace q171:=eq_true q171
                refine start_ (n:=16) (S:=fun w'=>w'.cell? (ad164.add ((x8_2).toNat * 2)) = some (.int .i64 ((rd_T38 l1 x8_2).f0)) ∧ w'.cell? ⟨(ad164.add ((x8_2).toNat * 2)).block,(ad164.add ((x8_2).toNat * 2)).off + 1,none⟩ = some (.int .i64 ((rd_T38 l1 x8_2).f1)) ∧ w'.cell? (ad164.add ((x8_2).toNat * 2)) = some (.int .i64 ((rd_T38 l1 x8_2).f0)) ∧ w'.cell? ⟨(ad164.add ((x8_2).toNat * 2)).block,(ad164.add ((x8_2).toNat * 2)).off + 1,none⟩ = some (.int .i64 ((rd_T38 l1 x8_2).f1))) (ds:=[]) #[false,false,false,false,false,false,false,false,false,false,false,false,false,false,false,false] (by kernel_rfl) rfl rfl ⟨((HB.out.cell (World.block_lt_of_cell? w _ hw170_0)).trans hw170_0),((HB.out.cell (World.block_lt_of_cell? w _ hw170_1)).trans hw170_1),((HB.out.cell (World.block_lt_of_cell? w _ hw171_0)).trans hw171_0),((HB.out.cell (World.block_lt_of_cell? w _ hw171_1)).trans hw171_1)⟩ (fun hHeld=>?_);refine with_tabW spec_CountWhen.tab13 spec_CountWhen.bits13 (fun HT_ HW_=>?_)
                generalize wc.drew = w78 at BK158 BK159 HB hx170_0 hx170_1 hx171_0 hx171_1 hHeld ⊢
                refine pure_ (i:=0) (N:=some 90) (v:=?_) (a':=?_) #[true,false,false,false,false,false,false,false,false,false,false,false,false,false,false,false] rfl rfl (any_of HT_.out (by kernel_rfl)) (fun _ _ _ h=>h) (Or.inl ⟨by rfl,?_⟩) ?_ ?_
                rotate_left
                ·intro w'
                 go_simp
                 with_reducible rfl
                rotate_left
                ·simp only [Act.put,zS,z0,z1,i64_w,i32_w]
                 rfl
                refine pure_ (i:=1) (N:=some 91) (v:=?_) (a':=?_) #[true,true,false,false,false,false,false,false,false,false,false,false,false,false,false,false] rfl rfl (any_of HT_.out (by kernel_rfl)) (fun _ _ _ h=>h) (Or.inl ⟨by rfl,?_⟩) ?_ ?_
                rotate_left
                ·intro w'
                 go_simp
                 with_reducible rfl
                rotate_left
                ·simp only [Act.put,zS,z0,z1,i64_w,i32_w]
                 rfl
                refine pure_ (i:=2) (N:=some 92) (v:=?_) (a':=?_) #[true,true,true,false,false,false,false,false,false,false,false,false,false,false,false,false] rfl rfl (any_of HT_.out (by kernel_rfl)) (fun _ _ _ h=>h) (Or.inl ⟨by rfl,?_⟩) ?_ ?_
                rotate_left
                ·intro w'
                 go_simp
                 with_reducible rfl
                rotate_left
                ·simp only [Act.put,zS,z0,z1,i64_w,i32_w]
                 rfl
                refine pure_ (i:=3) (N:=some 93) (v:=?_) (a':=?_) #[true,true,true,true,false,false,false,false,false,false,false,false,false,false,false,false] rfl rfl (any_of HT_.out (by kernel_rfl)) (fun _ _ _ h=>h) (Or.inl ⟨by rfl,?_⟩) ?_ ?_
                rotate_left
                ·intro w'
                 go_simp
                 with_reducible rfl
                rotate_left
                ·simp only [Act.put,zS,z0,z1,i64_w,i32_w]
                 rfl
                refine pure_ (i:=5) (N:=some 95) (v:=?_) (a':=?_) #[true,true,true,true,false,true,false,false,false,false,false,false,false,false,false,false] rfl rfl (any_of HT_.out (by kernel_rfl)) (fun _ _ _ h=>h) (Or.inl ⟨by rfl,?_⟩) ?_ ?_
                rotate_left
                ·intro w'
                 go_simp
                 with_reducible rfl
                rotate_left
                ·simp only [Act.put,zS,z0,z1,i64_w,i32_w]
                 rfl
                refine pure_ (i:=7) (N:=some 97) (v:=?_) (a':=?_) #[true,true,true,true,false,true,false,true,false,false,false,false,false,false,false,false] rfl rfl (any_of HT_.out (by kernel_rfl)) (fun _ _ _ h=>h) (Or.inl ⟨by rfl,?_⟩) ?_ ?_
                rotate_left
                ·intro w'
                 go_simp
                 with_reducible rfl
                rotate_left
                ·simp only [Act.put,zS,z0,z1,i64_w,i32_w]
                 rfl
                refine pure_ (i:=8) (N:=some 98) (v:=?_) (a':=?_) #[true,true,true,true,false,true,false,true,true,false,false,false,false,false,false,false] rfl rfl (any_of HT_.out (by kernel_rfl)) (fun _ _ _ h=>h) (Or.inl ⟨by rfl,?_⟩) ?_ ?_
                rotate_left
                ·intro w'
                 go_simp
                 with_reducible rfl
                rotate_left
                ·simp only [Act.put,zS,z0,z1,i64_w,i32_w]
                 rfl
                refine pure_ (i:=9) (N:=some 99) (v:=?_) (a':=?_) #[true,true,true,true,false,true,false,true,true,true,false,false,false,false,false,false] rfl rfl (any_of HT_.out (by kernel_rfl)) (fun _ _ _ h=>h) (Or.inl ⟨by rfl,?_⟩) ?_ ?_
                rotate_left
                ·intro w'
                 go_simp
                 with_reducible rfl
                rotate_left
                ·simp only [Act.put,zS,z0,z1,i64_w,i32_w]
                 rfl
                refine pure_ (i:=10) (N:=some 100) (v:=?_) (a':=?_) #[true,true,true,true,false,true,false,true,true,true,true,false,false,false,false,false] rfl rfl (any_of HT_.out (by kernel_rfl)) (fun _ _ _ h=>h) (Or.inl ⟨by rfl,?_⟩) ?_ ?_
                rotate_left
                ·intro w'
                 go_simp
                 with_reducible rfl
                rotate_left
                ·simp only [Act.put,zS,z0,z1,i64_w,i32_w]
                 rfl
                refine pure_ (i:=12) (N:=some 102) (v:=?_) (a':=?_) #[true,true,true,true,false,true,false,true,true,true,true,false,true,false,false,false] rfl rfl (any_of HT_.out (by kernel_rfl)) (fun _ _ _ h=>h) (Or.inl ⟨by rfl,?_⟩) ?_ ?_
                rotate_left
                ·intro w'
                 go_simp
                 with_reducible rfl
                rotate_left
                ·simp only [Act.put,zS,z0,z1,i64_w,i32_w]
                 rfl
                refine take_ (i:=4) (N:=some 94) (v:=?_) (a':=?_) #[true,true,true,true,true,true,false,true,true,true,true,false,true,false,false,false] rfl rfl (take_ofW HT_.out HW_.out (by kernel_rfl)) (fun _ _ _ h=>h) (Or.inl ⟨by rfl,?_⟩) hHeld ?_ ?_
                rotate_left
                ·rintro w' ⟨s0,s1,s2,s3⟩
                 go_simp
                 with_reducible rfl
                rotate_left
                ·simp only [Act.put,zS,z0,z1,i64_w,i32_w]
                 rfl
                refine pure_ (i:=6) (N:=some 96) (v:=?_) (a':=?_) #[true,true,true,true,true,true,true,true,true,true,true,false,true,false,false,false] rfl rfl (any_of HT_.out (by kernel_rfl)) (fun _ _ _ h=>h) (Or.inl ⟨by rfl,?_⟩) ?_ ?_
                rotate_left
                ·intro w'
                 go_simp
                 with_reducible rfl
                rotate_left
                ·simp only [Act.put,zS,z0,z1,i64_w,i32_w]
                 rfl
                refine pure_ (i:=14) (N:=some 14) (v:=?_) (a':=?_) #[true,true,true,true,true,true,true,true,true,true,true,false,true,false,true,false] rfl rfl (any_of HT_.out (by kernel_rfl)) (fun _ _ _ h=>h) (Or.inl ⟨by rfl,?_⟩) ?_ ?_
                rotate_left
                ·intro w'
                 go_simp
                 with_reducible rfl
                rotate_left
                ·simp only [Act.put,zS,z0,z1,i64_w,i32_w]
                 rfl
                refine take_ (i:=11) (N:=some 101) (v:=?_) (a':=?_) #[true,true,true,true,true,true,true,true,true,true,true,true,true,false,true,false] rfl rfl (take_ofW HT_.out HW_.out (by kernel_rfl)) (fun _ _ _ h=>h) (Or.inl ⟨by rfl,?_⟩) hHeld ?_ ?_
                rotate_left
                ·rintro w' ⟨s0,s1,s2,s3⟩
                 go_simp
                 with_reducible rfl
                rotate_left
                ·simp only [Act.put,zS,z0,z1,i64_w,i32_w]
                 rfl
                refine pure_ (i:=13) (N:=some 103) (v:=?_) (a':=?_) #[true,true,true,true,true,true,true,true,true,true,true,true,true,true,true,false] rfl rfl (any_of HT_.out (by kernel_rfl)) (fun _ _ _ h=>h) (Or.inl ⟨by rfl,?_⟩) ?_ ?_
                rotate_left
                ·intro w'
                 go_simp
                 with_reducible rfl
                rotate_left
                ·simp only [Act.put,zS,z0,z1,i64_w,i32_w]
                 rfl
                refine pure_ (i:=15) (N:=some 15) (v:=?_) (a':=?_) #[true,true,true,true,true,true,true,true,true,true,true,true,true,true,true,true] rfl rfl (any_of HT_.out (by kernel_rfl)) (fun _ _ _ h=>h) (Or.inl ⟨by rfl,?_⟩) ?_ ?_
                rotate_left
                ·intro w'
                 go_simp
                 with_reducible rfl
                rotate_left
                ·simp only [Act.put,zS,z0,z1,i64_w,i32_w]
                 rfl
                refine done_ (done_of HT_.out (by kernel_rfl)) ?_
                have hnb79:=NB159_158.out
                have hnc79:=NB158_159.out
                have hcz80_0:w78.cell? ⟨gb159,0,none⟩ = some (.int .i64 0):=(blk_cell BK159.out 0).trans rfl
                have hcz80_1:w78.cell? ⟨gb159,1,none⟩ = some (.int .i64 0):=(blk_cell BK159.out 1).trans rfl
                have hfz80_0:=blk_frozen BK159.out 0
                have hfz80_1:=blk_frozen BK159.out 1
                try go_wp2
                refine bodyPost_ret (results_ct rfl _ _ gb159 40 #[.int .i64 0,.int .i64 0] (0,0) _ rfl (by (with_reducible repeat (first|refine bA ?_ _|refine bB ?_|refine bC ?_ _));refine bH (cs:=#[.int .i64 0,.int .i64 0]) ?_ 1 _ rfl;(with_reducible repeat (first|refine bA ?_ _|refine bB ?_|refine bC ?_ _));refine bH (cs:=#[.int .i64 0,.int .i64 0]) ?_ 0 _ rfl;(with_reducible repeat (first|refine bA ?_ _|refine bB ?_|refine bC ?_ _));exact BK159.out) Try.underlying40 rfl (by kernel_rfl)) rfl ?_
                exact ⟨by first|rfl|(simp [*,errW_none,errW_some] <;> rfl),by repeat (first|(with_reducible first|exact HB.out|apply bE|apply bD|apply bF|refine below_set ?_ GE158.out|refine below_set ?_ GE159.out)|exact HB.out)⟩
               ·rw [if_neg c77] at H
                have c77b0:decide ((wrap64 (((rd_T38 l1 x8_2).f1) + t168)) < (wrap64 (((rd_T38 l1 x8_2).f1) + t165))) = false:=decide_eq_false c77
                clear c77
                simp only [zI,zJ] at H
                obtain ⟨rfl,rfl,rfl⟩:=H
                try go_wp2
                have n0_:=zM (bB BK158.out)
                have n1_:=zM (bB BK159.out)
                have n2_:=zM (bF HB.out)
                clear BK158
                clear BK159
                clear HB
                have BK158:=n0_
                have BK159:=n1_
                have HB:=n2_
                clear n0_ n1_ n2_
                have p170:0 ≤ (x8_2:Int):=of_decide_eq_true (by first|(with_reducible assumption)|assumption)
                have q170:x8_2 < (l1.length:Int):=of_decide_eq_true (by first|(with_reducible assumption)|assumption)
                obtain ⟨ad170,e170,hx170_0,hx170_1⟩:=at_T38 HR1.out x8_2 p170 q170
                have hw170_1:=hx170_1
                have hw170_0:=hx170_0
                obtain rfl:ad164 = ad170:=(by injection e170)
                replace hx170_0:=(HB.out.cell (World.block_lt_of_cell? w _ hx170_0)).trans hx170_0
                replace hx170_1:=(HB.out.cell (World.block_lt_of_cell? w _ hx170_1)).trans hx170_1
                replace p170:=eq_true p170
                replace q170:=eq_true q170
                have p171:0 ≤ (x8_2:Int):=of_decide_eq_true (by first|(with_reducible assumption)|assumption)
                have q171:x8_2 < (l1.length:Int):=of_decide_eq_true (by first|(with_reducible assumption)|assumption)
                obtain ⟨ad171,e171,hx171_0,hx171_1⟩:=at_T38 HR1.out x8_2 p171 q171
                have hw171_1:=hx171_1
                have hw171_0:=hx171_0
                obtain rfl:ad164 = ad171:=(by injection e171)
                replace hx171_0:=(HB.out.cell (World.block_lt_of_cell? w _ hx171_0)).trans hx171_0
                replace hx171_1:=(HB.out.cell (World.block_lt_of_cell? w _ hx171_1)).trans hx171_1
                replace p171:=eq_true p171
                replace q171:=eq_true q171
                refine start_ (n:=16) (S:=fun w'=>w'.cell? (ad164.add ((x8_2).toNat * 2)) = some (.int .i64 ((rd_T38 l1 x8_2).f0)) ∧ w'.cell? ⟨(ad164.add ((x8_2).toNat * 2)).block,(ad164.add ((x8_2).toNat * 2)).off + 1,none⟩ = some (.int .i64 ((rd_T38 l1 x8_2).f1)) ∧ w'.cell? (ad164.add ((x8_2).toNat * 2)) = some (.int .i64 ((rd_T38 l1 x8_2).f0)) ∧ w'.cell? ⟨(ad164.add ((x8_2).toNat * 2)).block,(ad164.add ((x8_2).toNat * 2)).off + 1,none⟩ = some (.int .i64 ((rd_T38 l1 x8_2).f1))) (ds:=[]) #[false,false,false,false,false,false,false,false,false,false,false,false,false,false,false,false] (by kernel_rfl) rfl rfl ⟨((HB.out.cell (World.block_lt_of_cell? w _ hw170_0)).trans hw170_0),((HB.out.cell (World.block_lt_of_cell? w _ hw170_1)).trans hw170_1),((HB.out.cell (World.block_lt_of_cell? w _ hw171_0)).trans hw171_0),((HB.out.cell (World.block_lt_of_cell? w _ hw171_1)).trans hw171_1)⟩ (fun hHeld=>?_);refine with_tabW spec_CountWhen.tab13 spec_CountWhen.bits13 (fun HT_ HW_=>?_)
                generalize wc.drew = w81 at BK158 BK159 HB hx170_0 hx170_1 hx171_0 hx171_1 hHeld ⊢
                refine pure_ (i:=0) (N:=some 90) (v:=?_) (a':=?_) #[true,false,false,false,false,false,false,false,false,false,false,false,false,false,false,false] rfl rfl (any_of HT_.out (by kernel_rfl)) (fun _ _ _ h=>h) (Or.inl ⟨by rfl,?_⟩) ?_ ?_
                rotate_left
                ·intro w'
                 go_simp
                 with_reducible rfl
                rotate_left
                ·simp only [Act.put,zS,z0,z1,i64_w,i32_w]
                 rfl
                refine pure_ (i:=1) (N:=some 91) (v:=?_) (a':=?_) #[true,true,false,false,false,false,false,false,false,false,false,false,false,false,false,false] rfl rfl (any_of HT_.out (by kernel_rfl)) (fun _ _ _ h=>h) (Or.inl ⟨by rfl,?_⟩) ?_ ?_
                rotate_left
                ·intro w'
                 go_simp
                 with_reducible rfl
                rotate_left
                ·simp only [Act.put,zS,z0,z1,i64_w,i32_w]
                 rfl
                refine pure_ (i:=2) (N:=some 92) (v:=?_) (a':=?_) #[true,true,true,false,false,false,false,false,false,false,false,false,false,false,false,false] rfl rfl (any_of HT_.out (by kernel_rfl)) (fun _ _ _ h=>h) (Or.inl ⟨by rfl,?_⟩) ?_ ?_
                rotate_left
                ·intro w'
                 go_simp
                 with_reducible rfl
                rotate_left
                ·simp only [Act.put,zS,z0,z1,i64_w,i32_w]
                 rfl
                refine pure_ (i:=3) (N:=some 93) (v:=?_) (a':=?_) #[true,true,true,true,false,false,false,false,false,false,false,false,false,false,false,false] rfl rfl (any_of HT_.out (by kernel_rfl)) (fun _ _ _ h=>h) (Or.inl ⟨by rfl,?_⟩) ?_ ?_
                rotate_left
                ·intro w'
                 go_simp
                 with_reducible rfl
                rotate_left
                ·simp only [Act.put,zS,z0,z1,i64_w,i32_w]
                 rfl
                refine pure_ (i:=5) (N:=some 95) (v:=?_) (a':=?_) #[true,true,true,true,false,true,false,false,false,false,false,false,false,false,false,false] rfl rfl (any_of HT_.out (by kernel_rfl)) (fun _ _ _ h=>h) (Or.inl ⟨by rfl,?_⟩) ?_ ?_
                rotate_left
                ·intro w'
                 go_simp
                 with_reducible rfl
                rotate_left
                ·simp only [Act.put,zS,z0,z1,i64_w,i32_w]
                 rfl
                refine pure_ (i:=7) (N:=some 97) (v:=?_) (a':=?_) #[true,true,true,true,false,true,false,true,false,false,false,false,false,false,false,false] rfl rfl (any_of HT_.out (by kernel_rfl)) (fun _ _ _ h=>h) (Or.inl ⟨by rfl,?_⟩) ?_ ?_
                rotate_left
                ·intro w'
                 go_simp
                 with_reducible rfl
                rotate_left
                ·simp only [Act.put,zS,z0,z1,i64_w,i32_w]
                 rfl
                refine pure_ (i:=8) (N:=some 98) (v:=?_) (a':=?_) #[true,true,true,true,false,true,false,true,true,false,false,false,false,false,false,false] rfl rfl (any_of HT_.out (by kernel_rfl)) (fun _ _ _ h=>h) (Or.inl ⟨by rfl,?_⟩) ?_ ?_
                rotate_left
                ·intro w'
                 go_simp
                 with_reducible rfl
                rotate_left
                ·simp only [Act.put,zS,z0,z1,i64_w,i32_w]
                 rfl
                refine pure_ (i:=9) (N:=some 99) (v:=?_) (a':=?_) #[true,true,true,true,false,true,false,true,true,true,false,false,false,false,false,false] rfl rfl (any_of HT_.out (by kernel_rfl)) (fun _ _ _ h=>h) (Or.inl ⟨by rfl,?_⟩) ?_ ?_
                rotate_left
                ·intro w'
                 go_simp
                 with_reducible rfl
                rotate_left
                ·simp only [Act.put,zS,z0,z1,i64_w,i32_w]
                 rfl
                refine pure_ (i:=10) (N:=some 100) (v:=?_) (a':=?_) #[true,true,true,true,false,true,false,true,true,true,true,false,false,false,false,false] rfl rfl (any_of HT_.out (by kernel_rfl)) (fun _ _ _ h=>h) (Or.inl ⟨by rfl,?_⟩) ?_ ?_
                rotate_left
                ·intro w'
                 go_simp
                 with_reducible rfl
                rotate_left
                ·simp only [Act.put,zS,z0,z1,i64_w,i32_w]
                 rfl
                refine pure_ (i:=12) (N:=some 102) (v:=?_) (a':=?_) #[true,true,true,true,false,true,false,true,true,true,true,false,true,false,false,false] rfl rfl (any_of HT_.out (by kernel_rfl)) (fun _ _ _ h=>h) (Or.inl ⟨by rfl,?_⟩) ?_ ?_
                rotate_left
                ·intro w'
                 go_simp
                 with_reducible rfl
                rotate_left
                ·simp only [Act.put,zS,z0,z1,i64_w,i32_w]
                 rfl
                refine take_ (i:=4) (N:=some 94) (v:=?_) (a':=?_) #[true,true,true,true,true,true,false,true,true,true,true,false,true,false,false,false] rfl rfl (take_ofW HT_.out HW_.out (by kernel_rfl)) (fun _ _ _ h=>h) (Or.inl ⟨by rfl,?_⟩) hHeld ?_ ?_
                rotate_left
                ·rintro w' ⟨s0,s1,s2,s3⟩
                 go_simp
                 with_reducible rfl
                rotate_left
                ·simp only [Act.put,zS,z0,z1,i64_w,i32_w]
                 rfl
                refine pure_ (i:=6) (N:=some 96) (v:=?_) (a':=?_) #[true,true,true,true,true,true,true,true,true,true,true,false,true,false,false,false] rfl rfl (any_of HT_.out (by kernel_rfl)) (fun _ _ _ h=>h) (Or.inl ⟨by rfl,?_⟩) ?_ ?_
                rotate_left
                ·intro w'
                 go_simp
                 with_reducible rfl
                rotate_left
                ·simp only [Act.put,zS,z0,z1,i64_w,i32_w]
                 rfl
                refine pure_ (i:=14) (N:=some 14) (v:=?_) (a':=?_) #[true,true,true,true,true,true,true,true,true,true,true,false,true,false,true,false] rfl rfl (any_of HT_.out (by kernel_rfl)) (fun _ _ _ h=>h) (Or.inl ⟨by rfl,?_⟩) ?_ ?_
                rotate_left
                ·intro w'
                 go_simp
                 with_reducible rfl
                rotate_left
                ·simp only [Act.put,zS,z0,z1,i64_w,i32_w]
                 rfl
                refine take_ (i:=11) (N:=some 101) (v:=?_) (a':=?_) #[true,true,true,true,true,true,true,true,true,true,true,true,true,false,true,false] rfl rfl (take_ofW HT_.out HW_.out (by kernel_rfl)) (fun _ _ _ h=>h) (Or.inl ⟨by rfl,?_⟩) hHeld ?_ ?_
                rotate_left
                ·rintro w' ⟨s0,s1,s2,s3⟩
                 go_simp
                 with_reducible rfl
                rotate_left
                ·simp only [Act.put,zS,z0,z1,i64_w,i32_w]
                 rfl
                refine pure_ (i:=13) (N:=some 103) (v:=?_) (a':=?_) #[true,true,true,true,true,true,true,true,true,true,true,true,true,true,true,false] rfl rfl (any_of HT_.out (by kernel_rfl)) (fun _ _ _ h=>h) (Or.inl ⟨by rfl,?_⟩) ?_ ?_
                rotate_left
                ·intro w'
                 go_simp
                 with_reducible rfl
                rotate_left
                ·simp only [Act.put,zS,z0,z1,i64_w,i32_w]
                 rfl
                refine pure_ (i:=15) (N:=some 15) (v:=?_) (a':=?_) #[true,true,true,true,true,true,true,true,true,true,true,true,true,true,true,true] rfl rfl (any_of HT_.out (by kernel_rfl)) (fun _ _ _ h=>h) (Or.inl ⟨by rfl,?_⟩) ?_ ?_
                rotate_left
                ·intro w'
                 go_simp
                 with_reducible rfl
                rotate_left
                ·simp only [Act.put,zS,z0,z1,i64_w,i32_w]
                 rfl
                refine done_ (done_of HT_.out (by kernel_rfl)) ?_
                have hnb82:=NB159_158.out
                have hnc82:=NB158_159.out
                have hcz83_0:w81.cell? ⟨gb159,0,none⟩ = some (.int .i64 0):=(blk_cell BK159.out 0).trans rfl
                have hcz83_1:w81.cell? ⟨gb159,1,none⟩ = some (.int .i64 0):=(blk_cell BK159.out 1).trans rfl
                have hfz83_0:=blk_frozen BK159.out 0
                have hfz83_1:=blk_frozen BK159.out 1
                try go_wp2
                refine bodyPost_ret (results_ct rfl _ _ gb159 40 #[.int .i64 (wrap64 (((rd_T38 l1 x8_2).f1) + t165)),.int .i64 (wrap64 (((rd_T38 l1 x8_2).f1) + t168))] (0,0) _ rfl (by (with_reducible repeat (first|refine bA ?_ _|refine bB ?_|refine bC ?_ _));refine bH (cs:=#[.int .i64 (wrap64 (((rd_T38 l1 x8_2).f1) + t165)),.int .i64 0]) ?_ 1 _ rfl;(with_reducible repeat (first|refine bA ?_ _|refine bB ?_|refine bC ?_ _));refine bH (cs:=#[.int .i64 0,.int .i64 0]) ?_ 0 _ rfl;(with_reducible repeat (first|refine bA ?_ _|refine bB ?_|refine bC ?_ _));exact BK159.out) Try.underlying40 rfl (by kernel_rfl)) rfl ?_
                exact ⟨by first|rfl|(simp [*,errW_none,errW_some] <;> rfl),by repeat (first|(with_reducible first|exact HB.out|apply bE|apply bD|apply bF|refine below_set ?_ GE158.out|refine below_set ?_ GE159.out)|exact HB.out)⟩
             ·rw [if_neg c43] at H
              exact absurd H (by simp)
            ·rw [if_neg c42] at H
             exact absurd H (by simp)
        ·rw [if_neg c30] at H
         exact absurd H (by simp)
       ·rw [if_neg c29] at H
        exact absurd H (by simp)

end Go.Proofs.Ytlikojcfjamgpaa.XFnExactCountWhen
