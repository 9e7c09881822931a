-- Written by a program of this claim's session (wip/xprint.py), out of the translation.
import Derived.Test.YtlikojcfjamgpaaTECountWhenXFnExactCountWhenx0
import Derived.Test.YtlikojcfjamgpaaTECountWhenXFnExactCountWhenx1
import Derived.Test.YtlikojcfjamgpaaTECountWhenXFnExactCountWhenx2
namespace Go.Proofs.Ytlikojcfjamgpaa.XFnExactCountWhen
open Go.RowKit Go.Proofs.YtlikojcfjamgpaaW.PrintWords Go.Proofs.YtlikojcfjamgpaaW.PrintLast Go.Proofs.YtlikojcfjamgpaaW.PrintMore
open Go.Proofs.YtlikojcfjamgpaaW.PrintWords renaming blk_drewN → bA, blk_drew → bB, blk_alloc → bC, pw_below_drewN → bD, below_alloc → bE, below_drew1 → bF, Aside0.mk → zM, below_step → bG, blk_put → bH
open List renaming setIfInBounds_toArray → zS, set_cons_zero → z0, set_cons_succ → z1
attribute [local go_sem] max2_int min2_int max_two min_two max_three min_three max_four min_four
set_option linter.unusedVariables false
set_option linter.unusedSimpArgs false
set_option maxHeartbeats 8000000
set_option maxRecDepth 100000

/-! ### spec_l1Down: function 89 -/
def spec_l1Down.f (a0:Int) (a1:Int):Option (Int):=if a1 = 0 then (none) else (if (Int.tmod a0 a1) < 0 then (some (wrap64 ((wrap64 (Int.tdiv a0 a1)) - 1))) else (some (wrap64 (Int.tdiv a0 a1))))
theorem spec_l1Down.calls (a0:Int) (a1:Int) (r:Int) (w:World) (h:spec_l1Down.f a0 a1 = some r) :
  Calls Try.prog 89 #[.int .i64 a0,.int .i64 a1] w fun e w'=>e = .returned (.int .i64 r) ∧ Drawn0 w w':=by
 have H:(if a1 = 0 then (none) else (if (Int.tmod a0 a1) < 0 then (some (wrap64 ((wrap64 (Int.tdiv a0 a1)) - 1))) else (some (wrap64 (Int.tdiv a0 a1))))) = some r:=h
 clear h
 by_cases c3:a1 = 0
 ·rw [if_pos c3] at H
  exact absurd H (by simp)
 ·rw [if_neg c3] at H
  have c3b0:(a1 == 0) = false:=beq_eq_false_iff_ne.mpr c3
  have c3b1:(a1 != 0) = true:=bne_iff_ne.mpr c3
  by_cases c4:(Int.tmod a0 a1) < 0
  ·rw [if_pos c4] at H
   have c4b0:decide ((Int.tmod a0 a1) < 0) = true:=decide_eq_true c4
   clear c4
   obtain rfl:=Option.some.inj H
   simp only [zI,zJ] at H
   obtain ⟨rfl⟩:=H
   go_enter Try.func89,Try.ntmps89
   go_wp2
   go_ret
   exact ⟨by first|rfl|(simp;done)|(simp [*];done),by repeat (first|exact Drawn0.refl _|apply Drawn0.step)⟩
  ·rw [if_neg c4] at H
   have c4b0:decide ((Int.tmod a0 a1) < 0) = false:=decide_eq_false c4
   clear c4
   obtain rfl:=Option.some.inj H
   simp only [zI,zJ] at H
   obtain ⟨rfl⟩:=H
   go_enter Try.func89,Try.ntmps89
   go_wp2
   go_ret
   exact ⟨by first|rfl|(simp;done)|(simp [*];done),by repeat (first|exact Drawn0.refl _|apply Drawn0.step)⟩

/-! ### spec_l1Up: function 88 -/
def spec_l1Up.f (a0:Int) (a1:Int):Option (Int):=(spec_l1Down.f (wrap64 (-a0)) a1).bind fun t145=>(some (wrap64 (-t145)))
theorem spec_l1Up.calls (a0:Int) (a1:Int) (r:Int) (w:World) (h:spec_l1Up.f a0 a1 = some r) :
  Calls Try.prog 88 #[.int .i64 a0,.int .i64 a1] w fun e w'=>e = .returned (.int .i64 r) ∧ Drawn0 w w':=by
 have H:((spec_l1Down.f (wrap64 (-a0)) a1).bind fun t145=>(some (wrap64 (-t145)))) = some r:=h
 clear h
 replace H:=zO H
 obtain ⟨t145,A30,H⟩:=H
 replace H:(some (wrap64 (-t145))) = some r:=H
 have A3:=zM A30
 clear A30
 obtain rfl:=Option.some.inj H
 simp only [zI,zJ] at H
 obtain ⟨rfl⟩:=H
 go_enter Try.func88,Try.ntmps88
 go_wp2_with (first|((with_reducible refine gate_callee (f:=89) rfl ?_);refine goesL_ (some 8) rfl rfl Try.func89 (by kernel_rfl) rfl #[.int .i64 (wrap64 (-a0)),.int .i64 a1] rfl (by (try simp only [List.map_toArray,List.map_cons,List.map_nil]);first|done|rfl) ?_;(with_reducible refine (spec_l1Down.calls (wrap64 (-a0)) a1 t145 _ A3.out).mono ?_);rintro e w' ⟨rfl,⟨nd,rfl⟩⟩;refine ⟨_,rfl,?_⟩))
 go_ret
 exact ⟨by first|rfl|(simp;done)|(simp [*];done),by repeat (first|exact Drawn0.refl _|apply Drawn0.step)⟩

/-! ### spec_LeastCount: function 55 -/
def spec_LeastCount.j0:Nat → Int → Bool → Int → Int → Option (Int × Bool)
 | 0,_,_,_,_=>none
 | k + 1,x1,x13,x147000,x147001=>if x13 = true then (some (0,false)) else ((spec_l1Up.f (wrap64 (x1 * (wrap64 (x147001 - x147000)))) x147001).bind fun t149=>((spec_l2Told.f t149).bind fun bt150=>(some (bt150.1,bt150.2))))
def spec_LeastCount.f (k:Nat) (a0_0:Int) (a0_1:Int) (a1:Int):Option (Int × Bool):=(spec_DriftOk.f a0_0 a0_1).bind fun t147=>(if t147 = true then ((spec_l2Time.f a1).bind fun t148=>(spec_LeastCount.j0 k a1 (!t148) a0_0 a0_1)) else (spec_LeastCount.j0 k a1 true a0_0 a0_1))
theorem spec_LeastCount.mono_l:∀ k,(∀ y0 y1 y2 y3,LeO (spec_LeastCount.j0 k y0 y1 y2 y3) (spec_LeastCount.j0 (k + 1) y0 y1 y2 y3))
 | 0=>fun _ _ _ _ r h=>by simp [spec_LeastCount.j0] at h
 | k + 1=>by
  have ih0:=spec_LeastCount.mono_l k
  ·intro y0 y1 y2 y3
   unfold spec_LeastCount.j0
   repeat' first
   | (with_reducible exact ih0 _ _ _ _)
   | (with_reducible exact LeO.refl _)
   | (with_reducible exact LeO.none _)
   | (with_reducible refine LeO.ite ?_ ?_)
   | (with_reducible refine LeO.bind ?_ (fun _=>?_))
   | exact ih0 _ _ _ _
   | exact LeO.none _
   | refine LeO.ite ?_ ?_
   | refine LeO.bind ?_ (fun _=>?_)
theorem spec_LeastCount.mono:∀ a0 a1 a2 k,LeO (spec_LeastCount.f k a0 a1 a2) (spec_LeastCount.f (k + 1) a0 a1 a2):=by
 intro a0 a1 a2 k
 have ih0:=spec_LeastCount.mono_l k
 unfold spec_LeastCount.f
 repeat' first
   | (with_reducible exact ih0 _ _ _ _)
   | (with_reducible exact LeO.refl _)
   | (with_reducible exact LeO.none _)
   | (with_reducible refine LeO.ite ?_ ?_)
   | (with_reducible refine LeO.bind ?_ (fun _=>?_))
   | exact ih0 _ _ _ _
   | exact LeO.none _
   | refine LeO.ite ?_ ?_
   | refine LeO.bind ?_ (fun _=>?_)
theorem spec_LeastCount.calls (k:Nat) (a0_0:Int) (a0_1:Int) (a1:Int) (r1:Int) (r2:Bool) (w:World) (h:spec_LeastCount.f k a0_0 a0_1 a1 = some (r1,r2)) :
  Calls Try.prog 55 #[.agg #[.int .i64 a0_0,.int .i64 a0_1],.int .i64 a1] w fun e w'=>e = .returned (.tuple #[.int .i64 r1,.bool r2]) ∧ Below w.heap.size w w':=by
 have hu27:=Try.underlying27
 have HB:=zM (Below.refl w.heap.size w)
 have H:((spec_DriftOk.f a0_0 a0_1).bind fun t147=>(if t147 = true then ((spec_l2Time.f a1).bind fun t148=>(spec_LeastCount.j0 k a1 (!t148) a0_0 a0_1)) else (spec_LeastCount.j0 k a1 true a0_0 a0_1))) = some (r1,r2):=h
 clear h
 have HC3:=zM H
 clear H
 go_enter Try.func55,Try.ntmps55
 go_upto_region 1 with (first|((with_reducible refine gate_dst (N:=2) rfl ?_);refine box_event ?hg (N:=2) ?hd (cs:=#[.int .i64 a0_0,.int .i64 a0_1]) (t:=27) ?hr ?_;(case hd=>rfl);(case hg=>rfl);(case hr=>first|(go_simp;done)|(go_simp;rfl));intro gb146 hg w4 hbox hb;have n0_:=zM (bG (by repeat (first|(with_reducible first|exact HB.out|apply bE|apply bD|apply bF)|exact HB.out)) hb);have n1_:=zM (hbox);have n2_:=zM ((by rw [hg];exact (below_size (by repeat (first|(with_reducible first|exact HB.out|apply bE|apply bD|apply bF)|exact HB.out))):w.heap.size ≤ gb146));have n3_:=zM ((by rw [hg];exact (below_size (by repeat (first|(with_reducible first|exact HB.out|apply bE|apply bD|apply bF)|exact HB.out))):w.heap.size ≤ gb146));clear HB;have HB:=n0_;have BK146:=n1_;have GW146:=n2_;have GE146:=n3_;clear n0_ n1_ n2_ n3_;clear hb hbox hg))
 (try simp only [Act.put,zS,z0,z1])
 go_cut [13] (fun v13 wc=>∃ (kq:Nat) (x13_2:Bool),v13 = .bool x13_2 ∧ Aside0 (spec_LeastCount.j0 kq a1 x13_2 a0_0 a0_1 = some (r1,r2)) ∧ Aside0 (kq ≤ k) ∧ Aside0 (wc.heap[gb146]? = some (.cells #[.int .i64 a0_0,.int .i64 a0_1] 27 (0,0))) ∧ Aside0 (Below w.heap.size w wc))
 case first =>
  have H:=HC3.out
  clear HC3
  replace H:=zO H
  obtain ⟨t147,A50,H⟩:=H
  replace H:(if t147 = true then ((spec_l2Time.f a1).bind fun t148=>(spec_LeastCount.j0 k a1 (!t148) a0_0 a0_1)) else (spec_LeastCount.j0 k a1 true a0_0 a0_1)) = some (r1,r2):=H
  have A5:=zM A50
  clear A50
  by_cases c6:t147 = true
  ·subst c6
   have H1:((spec_l2Time.f a1).bind fun t148=>(spec_LeastCount.j0 k a1 (!t148) a0_0 a0_1)) = some (r1,r2):=by rw [if_pos rfl] at H;exact H
   clear H
   have H:=H1
   clear H1
   replace H:=zO H
   obtain ⟨t148,A70,H⟩:=H
   replace H:(spec_LeastCount.j0 k a1 (!t148) a0_0 a0_1) = some (r1,r2):=H
   have A7:=zM A70
   clear A70
   have H':=zM H
   clear H
   have hcz8_0:w4.cell? ⟨gb146,0,none⟩ = some (.int .i64 a0_0):=(blk_cell BK146.out 0).trans rfl
   have hcz8_1:w4.cell? ⟨gb146,1,none⟩ = some (.int .i64 a0_1):=(blk_cell BK146.out 1).trans rfl
   have hfz8_0:=blk_frozen BK146.out 0
   have hfz8_1:=blk_frozen BK146.out 1
   go_wp2_with (first|((with_reducible refine gate_callee (f:=77) rfl ?_);refine goesL_ (some 7) rfl rfl Try.func77 (by kernel_rfl) rfl #[.agg #[.int .i64 a0_0,.int .i64 a0_1]] rfl (by (try simp only [List.map_toArray,List.map_cons,List.map_nil]);first|done|rfl) ?_;(with_reducible refine (spec_DriftOk.calls a0_0 a0_1 true _ A5.out).mono ?_);rintro e w9 ⟨rfl,hb⟩;refine ⟨_,rfl,?_⟩;have n0_:=zM (blk_below (g:=gb146) (o:=.cells #[.int .i64 a0_0,.int .i64 a0_1] 27 (0,0)) (by (with_reducible repeat (first|refine bA ?_ _|refine bB ?_|refine bC ?_ _));exact BK146.out) hb);have n1_:=zM (bG (by repeat (first|(with_reducible first|exact HB.out|apply bE|apply bD|apply bF|refine below_set ?_ GE146.out)|exact HB.out)) hb);clear BK146;clear HB;have BK146:=n0_;have HB:=n1_;clear n0_ n1_;(try clear hb);(try clear hk);(try clear hi))|(go_at_call 79;(with_reducible refine (spec_l2Time.calls a1 t148 _ A7.out).mono ?_);rintro e w' ⟨rfl,⟨nd,rfl⟩⟩))
   go_meet
   case rel=>exact ⟨_,(!t148),(by first|rfl|(simp;done)|(simp [*];done)),H',⟨by first|omega|exact Nat.le_refl _⟩,⟨by (with_reducible repeat (first|refine bA ?_ _|refine bB ?_|refine bC ?_ _));exact BK146.out⟩,⟨by repeat (first|(with_reducible first|exact HB.out|apply bE|apply bD|apply bF|refine below_set ?_ GE146.out)|exact HB.out)⟩⟩
  ·replace c6:=Bool.eq_false_iff.mpr c6
   subst c6
   have H1:(spec_LeastCount.j0 k a1 true a0_0 a0_1) = some (r1,r2):=by rw [if_neg (show ¬ (false = true) by decide)] at H;exact H
   clear H
   have H:=H1
   clear H1
   have H':=zM H
   clear H
   have hcz10_0:w4.cell? ⟨gb146,0,none⟩ = some (.int .i64 a0_0):=(blk_cell BK146.out 0).trans rfl
   have hcz10_1:w4.cell? ⟨gb146,1,none⟩ = some (.int .i64 a0_1):=(blk_cell BK146.out 1).trans rfl
   have hfz10_0:=blk_frozen BK146.out 0
   have hfz10_1:=blk_frozen BK146.out 1
   go_wp2_with (first|((with_reducible refine gate_callee (f:=77) rfl ?_);refine goesL_ (some 7) rfl rfl Try.func77 (by kernel_rfl) rfl #[.agg #[.int .i64 a0_0,.int .i64 a0_1]] rfl (by (try simp only [List.map_toArray,List.map_cons,List.map_nil]);first|done|rfl) ?_;(with_reducible refine (spec_DriftOk.calls a0_0 a0_1 false _ A5.out).mono ?_);rintro e w11 ⟨rfl,hb⟩;refine ⟨_,rfl,?_⟩;have n0_:=zM (blk_below (g:=gb146) (o:=.cells #[.int .i64 a0_0,.int .i64 a0_1] 27 (0,0)) (by (with_reducible repeat (first|refine bA ?_ _|refine bB ?_|refine bC ?_ _));exact BK146.out) hb);have n1_:=zM (bG (by repeat (first|(with_reducible first|exact HB.out|apply bE|apply bD|apply bF|refine below_set ?_ GE146.out)|exact HB.out)) hb);clear BK146;clear HB;have BK146:=n0_;have HB:=n1_;clear n0_ n1_;(try clear hb);(try clear hk);(try clear hi)))
   go_meet
   case rel=>exact ⟨_,(true),(by first|rfl|(simp;done)|(simp [*];done)),H',⟨by first|omega|exact Nat.le_refl _⟩,⟨by (with_reducible repeat (first|refine bA ?_ _|refine bB ?_|refine bC ?_ _));exact BK146.out⟩,⟨by repeat (first|(with_reducible first|exact HB.out|apply bE|apply bD|apply bF|refine below_set ?_ GE146.out)|exact HB.out)⟩⟩
 case rest =>
  clear HC3
  try clear p2
  try clear c5
  try clear c6
  try clear c7
  try clear hcz10_0
  try clear hcz10_1
  try clear hcz8_0
  try clear hcz8_1
  try clear hfz10_0
  try clear hfz10_1
  try clear hfz8_0
  try clear hfz8_1
  obtain ⟨kq,x13_2,rfl,HA,HJ2,BK146,HB⟩:=hcut
  cases kq with
  | zero=>exact absurd HA.out (by simp [spec_LeastCount.j0])
  | succ kj2 =>
   have H:=HA.out
   clear HA
   simp only [spec_LeastCount.j0] at H
   by_cases c12:x13_2 = true
   ·subst c12
    have H1:(some (0,false)) = some (r1,r2):=by rw [if_pos rfl] at H;exact H
    clear H
    have H:=H1
    clear H1
    simp only [zI,zJ] at H
    obtain ⟨rfl,rfl⟩:=H
    go_wp2
    go_ret2
    exact ⟨by first|rfl|(simp [*,errW_none,errW_some] <;> rfl),by repeat (first|(with_reducible first|exact HB.out|apply bE|apply bD|apply bF|refine below_set ?_ GE146.out)|exact HB.out)⟩
   ·replace c12:=Bool.eq_false_iff.mpr c12
    subst c12
    have H1:((spec_l1Up.f (wrap64 (a1 * (wrap64 (a0_1 - a0_0)))) a0_1).bind fun t149=>((spec_l2Told.f t149).bind fun bt150=>(some (bt150.1,bt150.2)))) = some (r1,r2):=by rw [if_neg (show ¬ (false = true) by decide)] at H;exact H
    clear H
    have H:=H1
    clear H1
    replace H:=zO H
    obtain ⟨t149,A130,H⟩:=H
    replace H:((spec_l2Told.f t149).bind fun bt150=>(some (bt150.1,bt150.2))) = some (r1,r2):=H
    have A13:=zM A130
    clear A130
    replace H:=zO H
    obtain ⟨⟨t150,t151⟩,A140,H⟩:=H
    replace H:(some (t150,t151)) = some (r1,r2):=H
    have A14:=zM A140
    clear A140
    simp only [zI,zJ] at H
    obtain ⟨rfl,rfl⟩:=H
    have hcz15_0:wc.cell? ⟨gb146,0,none⟩ = some (.int .i64 a0_0):=(blk_cell BK146.out 0).trans rfl
    have hcz15_1:wc.cell? ⟨gb146,1,none⟩ = some (.int .i64 a0_1):=(blk_cell BK146.out 1).trans rfl
    have hfz15_0:=blk_frozen BK146.out 0
    have hfz15_1:=blk_frozen BK146.out 1
    go_wp2_with (first|((with_reducible refine gate_callee (f:=88) rfl ?_);refine goesL_ (some 23) rfl rfl Try.func88 (by kernel_rfl) rfl #[.int .i64 (wrap64 (a1 * (wrap64 (a0_1 - a0_0)))),.int .i64 a0_1] rfl (by (try simp only [List.map_toArray,List.map_cons,List.map_nil]);first|done|rfl) ?_;(with_reducible refine (spec_l1Up.calls (wrap64 (a1 * (wrap64 (a0_1 - a0_0)))) a0_1 t149 _ A13.out).mono ?_);rintro e w' ⟨rfl,⟨nd,rfl⟩⟩;refine ⟨_,rfl,?_⟩)|((with_reducible refine gate_callee (f:=87) rfl ?_);refine goesL_ (some 24) rfl rfl Try.func87 (by kernel_rfl) rfl #[.int .i64 t149] rfl (by (try simp only [List.map_toArray,List.map_cons,List.map_nil]);first|done|rfl) ?_;(with_reducible refine (spec_l2Told.calls t149 t150 t151 _ A14.out).mono ?_);rintro e w' ⟨rfl,⟨nd,rfl⟩⟩;refine ⟨_,rfl,?_⟩))
    go_ret2
    exact ⟨by first|rfl|(simp [*,errW_none,errW_some] <;> rfl),by repeat (first|(with_reducible first|exact HB.out|apply bE|apply bD|apply bF|refine below_set ?_ GE146.out)|exact HB.out)⟩

/-! ### spec_MostCount: function 56 -/
def spec_MostCount.j0:Nat → Int → Bool → Int → Int → Option (Int × Bool)
 | 0,_,_,_,_=>none
 | k + 1,x1,x13,x153000,x153001=>if x13 = true then (some (0,false)) else ((spec_l1Down.f (wrap64 (x1 * (wrap64 (x153001 + x153000)))) x153001).bind fun t155=>((spec_l2Told.f t155).bind fun bt156=>(some (bt156.1,bt156.2))))
def spec_MostCount.f (k:Nat) (a0_0:Int) (a0_1:Int) (a1:Int):Option (Int × Bool):=(spec_DriftOk.f a0_0 a0_1).bind fun t153=>(if t153 = true then ((spec_l2Time.f a1).bind fun t154=>(spec_MostCount.j0 k a1 (!t154) a0_0 a0_1)) else (spec_MostCount.j0 k a1 true a0_0 a0_1))
theorem spec_MostCount.mono_l:∀ k,(∀ y0 y1 y2 y3,LeO (spec_MostCount.j0 k y0 y1 y2 y3) (spec_MostCount.j0 (k + 1) y0 y1 y2 y3))
 | 0=>fun _ _ _ _ r h=>by simp [spec_MostCount.j0] at h
 | k + 1=>by
  have ih0:=spec_MostCount.mono_l k
  ·intro y0 y1 y2 y3
   unfold spec_MostCount.j0
   repeat' first
   | (with_reducible exact ih0 _ _ _ _)
   | (with_reducible exact LeO.refl _)
   | (with_reducible exact LeO.none _)
   | (with_reducible refine LeO.ite ?_ ?_)
   | (with_reducible refine LeO.bind ?_ (fun _=>?_))
   | exact ih0 _ _ _ _
   | exact LeO.none _
   | refine LeO.ite ?_ ?_
   | refine LeO.bind ?_ (fun _=>?_)
theorem spec_MostCount.mono:∀ a0 a1 a2 k,LeO (spec_MostCount.f k a0 a1 a2) (spec_MostCount.f (k + 1) a0 a1 a2):=by
 intro a0 a1 a2 k
 have ih0:=spec_MostCount.mono_l k
 unfold spec_MostCount.f
 repeat' first
   | (with_reducible exact ih0 _ _ _ _)
   | (with_reducible exact LeO.refl _)
   | (with_reducible exact LeO.none _)
   | (with_reducible refine LeO.ite ?_ ?_)
   | (with_reducible refine LeO.bind ?_ (fun _=>?_))
   | exact ih0 _ _ _ _
   | exact LeO.none _
   | refine LeO.ite ?_ ?_
   | refine LeO.bind ?_ (fun _=>?_)
theorem spec_MostCount.calls (k:Nat) (a0_0:Int) (a0_1:Int) (a1:Int) (r1:Int) (r2:Bool) (w:World) (h:spec_MostCount.f k a0_0 a0_1 a1 = some (r1,r2)) :
  Calls Try.prog 56 #[.agg #[.int .i64 a0_0,.int .i64 a0_1],.int .i64 a1] w fun e w'=>e = .returned (.tuple #[.int .i64 r1,.bool r2]) ∧ Below w.heap.size w w':=by
 have hu27:=Try.underlying27
 have HB:=zM (Below.refl w.heap.size w)
 have H:((spec_DriftOk.f a0_0 a0_1).bind fun t153=>(if t153 = true then ((spec_l2Time.f a1).bind fun t154=>(spec_MostCount.j0 k a1 (!t154) a0_0 a0_1)) else (spec_MostCount.j0 k a1 true a0_0 a0_1))) = some (r1,r2):=h
 clear h
 have HC3:=zM H
 clear H
 go_enter Try.func56,Try.ntmps56
 go_upto_region 1 with (first|((with_reducible refine gate_dst (N:=2) rfl ?_);refine box_event ?hg (N:=2) ?hd (cs:=#[.int .i64 a0_0,.int .i64 a0_1]) (t:=27) ?hr ?_;(case hd=>rfl);(case hg=>rfl);(case hr=>first|(go_simp;done)|(go_simp;rfl));intro gb152 hg w4 hbox hb;have n0_:=zM (bG (by repeat (first|(with_reducible first|exact HB.out|apply bE|apply bD|apply bF)|exact HB.out)) hb);have n1_:=zM (hbox);have n2_:=zM ((by rw [hg];exact (below_size (by repeat (first|(with_reducible first|exact HB.out|apply bE|apply bD|apply bF)|exact HB.out))):w.heap.size ≤ gb152));have n3_:=zM ((by rw [hg];exact (below_size (by repeat (first|(with_reducible first|exact HB.out|apply bE|apply bD|apply bF)|exact HB.out))):w.heap.size ≤ gb152));clear HB;have HB:=n0_;have BK152:=n1_;have GW152:=n2_;have GE152:=n3_;clear n0_ n1_ n2_ n3_;clear hb hbox hg))
 (try simp only [Act.put,zS,z0,z1])
 go_cut [13] (fun v13 wc=>∃ (kq:Nat) (x13_2:Bool),v13 = .bool x13_2 ∧ Aside0 (spec_MostCount.j0 kq a1 x13_2 a0_0 a0_1 = some (r1,r2)) ∧ Aside0 (kq ≤ k) ∧ Aside0 (wc.heap[gb152]? = some (.cells #[.int .i64 a0_0,.int .i64 a0_1] 27 (0,0))) ∧ Aside0 (Below w.heap.size w wc))
 case first =>
  have H:=HC3.out
  clear HC3
  replace H:=zO H
  obtain ⟨t153,A50,H⟩:=H
  replace H:(if t153 = true then ((spec_l2Time.f a1).bind fun t154=>(spec_MostCount.j0 k a1 (!t154) a0_0 a0_1)) else (spec_MostCount.j0 k a1 true a0_0 a0_1)) = some (r1,r2):=H
  have A5:=zM A50
  clear A50
  by_cases c6:t153 = true
  ·subst c6
   have H1:((spec_l2Time.f a1).bind fun t154=>(spec_MostCount.j0 k a1 (!t154) a0_0 a0_1)) = some (r1,r2):=by rw [if_pos rfl] at H;exact H
   clear H
   have H:=H1
   clear H1
   replace H:=zO H
   obtain ⟨t154,A70,H⟩:=H
   replace H:(spec_MostCount.j0 k a1 (!t154) a0_0 a0_1) = some (r1,r2):=H
   have A7:=zM A70
   clear A70
   have H':=zM H
   clear H
   have hcz8_0:w4.cell? ⟨gb152,0,none⟩ = some (.int .i64 a0_0):=(blk_cell BK152.out 0).trans rfl
   have hcz8_1:w4.cell? ⟨gb152,1,none⟩ = some (.int .i64 a0_1):=(blk_cell BK152.out 1).trans rfl
   have hfz8_0:=blk_frozen BK152.out 0
   have hfz8_1:=blk_frozen BK152.out 1
   go_wp2_with (first|((with_reducible refine gate_callee (f:=77) rfl ?_);refine goesL_ (some 7) rfl rfl Try.func77 (by kernel_rfl) rfl #[.agg #[.int .i64 a0_0,.int .i64 a0_1]] rfl (by (try simp only [List.map_toArray,List.map_cons,List.map_nil]);first|done|rfl) ?_;(with_reducible refine (spec_DriftOk.calls a0_0 a0_1 true _ A5.out).mono ?_);rintro e w9 ⟨rfl,hb⟩;refine ⟨_,rfl,?_⟩;have n0_:=zM (blk_below (g:=gb152) (o:=.cells #[.int .i64 a0_0,.int .i64 a0_1] 27 (0,0)) (by (with_reducible repeat (first|refine bA ?_ _|refine bB ?_|refine bC ?_ _));exact BK152.out) hb);have n1_:=zM (bG (by repeat (first|(with_reducible first|exact HB.out|apply bE|apply bD|apply bF|refine below_set ?_ GE152.out)|exact HB.out)) hb);clear BK152;clear HB;have BK152:=n0_;have HB:=n1_;clear n0_ n1_;(try clear hb);(try clear hk);(try clear hi))|(go_at_call 79;(with_reducible refine (spec_l2Time.calls a1 t154 _ A7.out).mono ?_);rintro e w' ⟨rfl,⟨nd,rfl⟩⟩))
   go_meet
   case rel=>exact ⟨_,(!t154),(by first|rfl|(simp;done)|(simp [*];done)),H',⟨by first|omega|exact Nat.le_refl _⟩,⟨by (with_reducible repeat (first|refine bA ?_ _|refine bB ?_|refine bC ?_ _));exact BK152.out⟩,⟨by repeat (first|(with_reducible first|exact HB.out|apply bE|apply bD|apply bF|refine below_set ?_ GE152.out)|exact HB.out)⟩⟩
  ·replace c6:=Bool.eq_false_iff.mpr c6
   subst c6
   have H1:(spec_MostCount.j0 k a1 true a0_0 a0_1) = some (r1,r2):=by rw [if_neg (show ¬ (false = true) by decide)] at H;exact H
   clear H
   have H:=H1
   clear H1
   have H':=zM H
   clear H
   have hcz10_0:w4.cell? ⟨gb152,0,none⟩ = some (.int .i64 a0_0):=(blk_cell BK152.out 0).trans rfl
   have hcz10_1:w4.cell? ⟨gb152,1,none⟩ = some (.int .i64 a0_1):=(blk_cell BK152.out 1).trans rfl
   have hfz10_0:=blk_frozen BK152.out 0
   have hfz10_1:=blk_frozen BK152.out 1
   go_wp2_with (first|((with_reducible refine gate_callee (f:=77) rfl ?_);refine goesL_ (some 7) rfl rfl Try.func77 (by kernel_rfl) rfl #[.agg #[.int .i64 a0_0,.int .i64 a0_1]] rfl (by (try simp only [List.map_toArray,List.map_cons,List.map_nil]);first|done|rfl) ?_;(with_reducible refine (spec_DriftOk.calls a0_0 a0_1 false _ A5.out).mono ?_);rintro e w11 ⟨rfl,hb⟩;refine ⟨_,rfl,?_⟩;have n0_:=zM (blk_below (g:=gb152) (o:=.cells #[.int .i64 a0_0,.int .i64 a0_1] 27 (0,0)) (by (with_reducible repeat (first|refine bA ?_ _|refine bB ?_|refine bC ?_ _));exact BK152.out) hb);have n1_:=zM (bG (by repeat (first|(with_reducible first|exact HB.out|apply bE|apply bD|apply bF|refine below_set ?_ GE152.out)|exact HB.out)) hb);clear BK152;clear HB;have BK152:=n0_;have HB:=n1_;clear n0_ n1_;(try clear hb);(try clear hk);(try clear hi)))
   go_meet
   case rel=>exact ⟨_,(true),(by first|rfl|(simp;done)|(simp [*];done)),H',⟨by first|omega|exact Nat.le_refl _⟩,⟨by (with_reducible repeat (first|refine bA ?_ _|refine bB ?_|refine bC ?_ _));exact BK152.out⟩,⟨by repeat (first|(with_reducible first|exact HB.out|apply bE|apply bD|apply bF|refine below_set ?_ GE152.out)|exact HB.out)⟩⟩
 case rest =>
  clear HC3
  try clear p2
  try clear c5
  try clear c6
  try clear c7
  try clear hcz10_0
  try clear hcz10_1
  try clear hcz8_0
  try clear hcz8_1
  try clear hfz10_0
  try clear hfz10_1
  try clear hfz8_0
  try clear hfz8_1
  obtain ⟨kq,x13_2,rfl,HA,HJ2,BK152,HB⟩:=hcut
  cases kq with
  | zero=>exact absurd HA.out (by simp [spec_MostCount.j0])
  | succ kj2 =>
   have H:=HA.out
   clear HA
   simp only [spec_MostCount.j0] at H
   by_cases c12:x13_2 = true
   ·subst c12
    have H1:(some (0,false)) = some (r1,r2):=by rw [if_pos rfl] at H;exact H
    clear H
    have H:=H1
    clear H1
    simp only [zI,zJ] at H
    obtain ⟨rfl,rfl⟩:=H
    go_wp2
    go_ret2
    exact ⟨by first|rfl|(simp [*,errW_none,errW_some] <;> rfl),by repeat (first|(with_reducible first|exact HB.out|apply bE|apply bD|apply bF|refine below_set ?_ GE152.out)|exact HB.out)⟩
   ·replace c12:=Bool.eq_false_iff.mpr c12
    subst c12
    have H1:((spec_l1Down.f (wrap64 (a1 * (wrap64 (a0_1 + a0_0)))) a0_1).bind fun t155=>((spec_l2Told.f t155).bind fun bt156=>(some (bt156.1,bt156.2)))) = some (r1,r2):=by rw [if_neg (show ¬ (false = true) by decide)] at H;exact H
    clear H
    have H:=H1
    clear H1
    replace H:=zO H
    obtain ⟨t155,A130,H⟩:=H
    replace H:((spec_l2Told.f t155).bind fun bt156=>(some (bt156.1,bt156.2))) = some (r1,r2):=H
    have A13:=zM A130
    clear A130
    replace H:=zO H
    obtain ⟨⟨t156,t157⟩,A140,H⟩:=H
    replace H:(some (t156,t157)) = some (r1,r2):=H
    have A14:=zM A140
    clear A140
    simp only [zI,zJ] at H
    obtain ⟨rfl,rfl⟩:=H
    have hcz15_0:wc.cell? ⟨gb152,0,none⟩ = some (.int .i64 a0_0):=(blk_cell BK152.out 0).trans rfl
    have hcz15_1:wc.cell? ⟨gb152,1,none⟩ = some (.int .i64 a0_1):=(blk_cell BK152.out 1).trans rfl
    have hfz15_0:=blk_frozen BK152.out 0
    have hfz15_1:=blk_frozen BK152.out 1
    go_wp2_with (first|((with_reducible refine gate_callee (f:=89) rfl ?_);refine goesL_ (some 23) rfl rfl Try.func89 (by kernel_rfl) rfl #[.int .i64 (wrap64 (a1 * (wrap64 (a0_1 + a0_0)))),.int .i64 a0_1] rfl (by (try simp only [List.map_toArray,List.map_cons,List.map_nil]);first|done|rfl) ?_;(with_reducible refine (spec_l1Down.calls (wrap64 (a1 * (wrap64 (a0_1 + a0_0)))) a0_1 t155 _ A13.out).mono ?_);rintro e w' ⟨rfl,⟨nd,rfl⟩⟩;refine ⟨_,rfl,?_⟩)|((with_reducible refine gate_callee (f:=87) rfl ?_);refine goesL_ (some 24) rfl rfl Try.func87 (by kernel_rfl) rfl #[.int .i64 t155] rfl (by (try simp only [List.map_toArray,List.map_cons,List.map_nil]);first|done|rfl) ?_;(with_reducible refine (spec_l2Told.calls t155 t156 t157 _ A14.out).mono ?_);rintro e w' ⟨rfl,⟨nd,rfl⟩⟩;refine ⟨_,rfl,?_⟩))
    go_ret2
    exact ⟨by first|rfl|(simp [*,errW_none,errW_some] <;> rfl),by repeat (first|(with_reducible first|exact HB.out|apply bE|apply bD|apply bF|refine below_set ?_ GE152.out)|exact HB.out)⟩

/-! ### spec_l1Max: function 57 -/
def spec_l1Max.f (a0:Int) (a1:Int):Option (Int):=if a0 > a1 then (some a0) else (some a1)
theorem spec_l1Max.calls (a0:Int) (a1:Int) (r:Int) (w:World) (h:spec_l1Max.f a0 a1 = some r) :
  Calls Try.prog 57 #[.int .i64 a0,.int .i64 a1] w fun e w'=>e = .returned (.int .i64 r) ∧ Drawn0 w w':=by
 have H:(if a0 > a1 then (some a0) else (some a1)) = some r:=h
 clear h
 by_cases c3:a0 > a1
 ·rw [if_pos c3] at H
  have c3b0:decide (a1 < a0) = true:=decide_eq_true c3
  clear c3
  obtain rfl:=Option.some.inj H
  simp only [zI,zJ] at H
  obtain ⟨rfl⟩:=H
  go_enter Try.func57,Try.ntmps57
  go_wp2
  go_ret
  exact ⟨by first|rfl|(simp;done)|(simp [*];done),by repeat (first|exact Drawn0.refl _|apply Drawn0.step)⟩
 ·rw [if_neg c3] at H
  have c3b0:decide (a1 < a0) = false:=decide_eq_false c3
  clear c3
  obtain rfl:=Option.some.inj H
  simp only [zI,zJ] at H
  obtain ⟨rfl⟩:=H
  go_enter Try.func57,Try.ntmps57
  go_wp2
  go_ret
  exact ⟨by first|rfl|(simp;done)|(simp [*];done),by repeat (first|exact Drawn0.refl _|apply Drawn0.step)⟩

/-! ### spec_l1Min: function 58 -/
def spec_l1Min.f (a0:Int) (a1:Int):Option (Int):=if a0 < a1 then (some a0) else (some a1)
theorem spec_l1Min.calls (a0:Int) (a1:Int) (r:Int) (w:World) (h:spec_l1Min.f a0 a1 = some r) :
  Calls Try.prog 58 #[.int .i64 a0,.int .i64 a1] w fun e w'=>e = .returned (.int .i64 r) ∧ Drawn0 w w':=by
 have H:(if a0 < a1 then (some a0) else (some a1)) = some r:=h
 clear h
 by_cases c3:a0 < a1
 ·rw [if_pos c3] at H
  have c3b0:decide (a0 < a1) = true:=decide_eq_true c3
  clear c3
  obtain rfl:=Option.some.inj H
  simp only [zI,zJ] at H
  obtain ⟨rfl⟩:=H
  go_enter Try.func58,Try.ntmps58
  go_wp2
  go_ret
  exact ⟨by first|rfl|(simp;done)|(simp [*];done),by repeat (first|exact Drawn0.refl _|apply Drawn0.step)⟩
 ·rw [if_neg c3] at H
  have c3b0:decide (a0 < a1) = false:=decide_eq_false c3
  clear c3
  obtain rfl:=Option.some.inj H
  simp only [zI,zJ] at H
  obtain ⟨rfl⟩:=H
  go_enter Try.func58,Try.ntmps58
  go_wp2
  go_ret
  exact ⟨by first|rfl|(simp;done)|(simp [*];done),by repeat (first|exact Drawn0.refl _|apply Drawn0.step)⟩

end Go.Proofs.Ytlikojcfjamgpaa.XFnExactCountWhen
