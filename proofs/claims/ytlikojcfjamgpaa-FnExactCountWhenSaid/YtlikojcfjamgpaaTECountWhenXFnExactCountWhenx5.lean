-- Written by a program of this claim's session (wip/xprint.py), out of the translation.
import Derived.Test.YtlikojcfjamgpaaTECountWhenXFnExactCountWhenx0
namespace Go.Proofs.Ytlikojcfjamgpaa.XFnExactCountWhen
open Go.RowKit Go.Proofs.YtlikojcfjamgpaaW.PrintWords Go.Proofs.YtlikojcfjamgpaaW.PrintLast Go.Proofs.YtlikojcfjamgpaaW.PrintMore
open Go.Proofs.YtlikojcfjamgpaaW.PrintWords renaming blk_drewN → bA, blk_drew → bB, blk_alloc → bC, pw_below_drewN → bD, below_alloc → bE, below_drew1 → bF, Aside0.mk → zM, below_step → bG, blk_put → bH
open List renaming setIfInBounds_toArray → zS, set_cons_zero → z0, set_cons_succ → z1
attribute [local go_sem] max2_int min2_int max_two min_two max_three min_three max_four min_four
set_option linter.unusedVariables false
set_option linter.unusedSimpArgs false
set_option maxHeartbeats 8000000
set_option maxRecDepth 100000

/-! ### impl_in: function 53 -/
def impl_in.f (a0:Int) (a1:Int) (a2:Int):Option (Bool):=if a1 ≤ a0 then (some (decide (a0 ≤ a2))) else (some false)
theorem impl_in.calls (a0:Int) (a1:Int) (a2:Int) (r:Bool) (w:World) (h:impl_in.f a0 a1 a2 = some r) :
  Calls Try.prog 53 #[.int .i64 a0,.int .i64 a1,.int .i64 a2] w fun e w'=>e = .returned (.bool r) ∧ Drawn0 w w':=by
 have H:(if a1 ≤ a0 then (some (decide (a0 ≤ a2))) else (some false)) = some r:=h
 clear h
 by_cases c4:a1 ≤ a0
 ·rw [if_pos c4] at H
  have c4b0:decide (a1 ≤ a0) = true:=decide_eq_true c4
  clear c4
  obtain rfl:=Option.some.inj H
  simp only [zI,zJ] at H
  obtain ⟨rfl⟩:=H
  go_enter Try.func53,Try.ntmps53
  go_wp2
  go_ret
  exact ⟨by first|rfl|(simp;done)|(simp [*];done),by repeat (first|exact Drawn0.refl _|apply Drawn0.step)⟩
 ·rw [if_neg c4] at H
  have c4b0:decide (a1 ≤ a0) = false:=decide_eq_false c4
  clear c4
  obtain rfl:=Option.some.inj H
  simp only [zI,zJ] at H
  obtain ⟨rfl⟩:=H
  go_enter Try.func53,Try.ntmps53
  go_wp2
  go_ret
  exact ⟨by first|rfl|(simp;done)|(simp [*];done),by repeat (first|exact Drawn0.refl _|apply Drawn0.step)⟩

/-! ### impl_DriftOk: function 75 -/
def impl_DriftOk.f (a0_0:Int) (a0_1:Int):Option (Bool):=(impl_in.f a0_1 1 1000000).bind fun t181=>(if t181 = true then ((impl_in.f a0_0 0 a0_1).bind fun t182=>(if t182 = true then (some (decide ((wrap64 (2 * a0_0)) ≤ a0_1))) else (some false))) else (some false))
theorem impl_DriftOk.calls (a0_0:Int) (a0_1:Int) (r:Bool) (w:World) (h:impl_DriftOk.f a0_0 a0_1 = some r) :
  Calls Try.prog 75 #[.agg #[.int .i64 a0_0,.int .i64 a0_1]] w fun e w'=>e = .returned (.bool r) ∧ Below w.heap.size w w':=by
 have hu27:=Try.underlying27
 have HB:=zM (Below.refl w.heap.size w)
 have H:((impl_in.f a0_1 1 1000000).bind fun t181=>(if t181 = true then ((impl_in.f a0_0 0 a0_1).bind fun t182=>(if t182 = true then (some (decide ((wrap64 (2 * a0_0)) ≤ a0_1))) else (some false))) else (some false))) = some r:=h
 clear h
 replace H:=zO H
 obtain ⟨t181,A20,H⟩:=H
 replace H:(if t181 = true then ((impl_in.f a0_0 0 a0_1).bind fun t182=>(if t182 = true then (some (decide ((wrap64 (2 * a0_0)) ≤ a0_1))) else (some false))) else (some false)) = some r:=H
 have A2:=zM A20
 clear A20
 by_cases c3:t181 = true
 ·subst c3
  have H1:((impl_in.f a0_0 0 a0_1).bind fun t182=>(if t182 = true then (some (decide ((wrap64 (2 * a0_0)) ≤ a0_1))) else (some false))) = some r:=by rw [if_pos rfl] at H;exact H
  clear H
  have H:=H1
  clear H1
  replace H:=zO H
  obtain ⟨t182,A40,H⟩:=H
  replace H:(if t182 = true then (some (decide ((wrap64 (2 * a0_0)) ≤ a0_1))) else (some false)) = some r:=H
  have A4:=zM A40
  clear A40
  by_cases c5:t182 = true
  ·subst c5
   have H1:(some (decide ((wrap64 (2 * a0_0)) ≤ a0_1))) = some r:=by rw [if_pos rfl] at H;exact H
   clear H
   have H:=H1
   clear H1
   obtain rfl:=Option.some.inj H
   simp only [zI,zJ] at H
   obtain ⟨rfl⟩:=H
   go_enter Try.func75,Try.ntmps75
   go_wp2_with (first|((with_reducible refine gate_dst (N:=1) rfl ?_);refine box_event ?hg (N:=1) ?hd (cs:=#[.int .i64 a0_0,.int .i64 a0_1]) (t:=27) ?hr ?_;(case hd=>rfl);(case hg=>rfl);(case hr=>first|(go_simp;done)|(go_simp;rfl));intro gb180 hg w6 hbox hb;have n0_:=zM (bG (by repeat (first|(with_reducible first|exact HB.out|apply bE|apply bD|apply bF)|exact HB.out)) hb);have n1_:=zM (hbox);have n2_:=zM ((by rw [hg];exact (below_size (by repeat (first|(with_reducible first|exact HB.out|apply bE|apply bD|apply bF)|exact HB.out))):w.heap.size ≤ gb180));have n3_:=zM ((by rw [hg];exact (below_size (by repeat (first|(with_reducible first|exact HB.out|apply bE|apply bD|apply bF)|exact HB.out))):w.heap.size ≤ gb180));clear HB;have HB:=n0_;have BK180:=n1_;have GW180:=n2_;have GE180:=n3_;clear n0_ n1_ n2_ n3_;clear hb hbox hg;have hcz7_0:w6.cell? ⟨gb180,0,none⟩ = some (.int .i64 a0_0):=(blk_cell BK180.out 0).trans rfl;have hcz7_1:w6.cell? ⟨gb180,1,none⟩ = some (.int .i64 a0_1):=(blk_cell BK180.out 1).trans rfl;have hfz7_0:=blk_frozen BK180.out 0;have hfz7_1:=blk_frozen BK180.out 1)|((with_reducible refine gate_callee (f:=53) rfl ?_);refine goesL_ (some 5) rfl rfl Try.func53 (by kernel_rfl) rfl #[.int .i64 a0_1,.int .i64 1,.int .i64 1000000] rfl (by (try simp only [List.map_toArray,List.map_cons,List.map_nil]);first|done|rfl|(simp only [List.length_drop,List.length_take];rfl)) ?_;(with_reducible refine (impl_in.calls a0_1 1 1000000 true _ A2.out).mono ?_);rintro e w' ⟨rfl,⟨nd,rfl⟩⟩;refine ⟨_,rfl,?_⟩)|(go_at_call 53;(with_reducible refine (impl_in.calls a0_0 0 a0_1 true _ A4.out).mono ?_);rintro e w' ⟨rfl,⟨nd,rfl⟩⟩))
   go_ret
   exact ⟨by first|rfl|(simp [*,errW_none,errW_some] <;> rfl),by repeat (first|(with_reducible first|exact HB.out|apply bE|apply bD|apply bF|refine below_set ?_ GE180.out)|exact HB.out)⟩
  ·replace c5:=Bool.eq_false_iff.mpr c5
   subst c5
   have H1:(some false) = some r:=by rw [if_neg (show ¬ (false = true) by decide)] at H;exact H
   clear H
   have H:=H1
   clear H1
   obtain rfl:=Option.some.inj H
   simp only [zI,zJ] at H
   obtain ⟨rfl⟩:=H
   go_enter Try.func75,Try.ntmps75
   go_wp2_with (first|((with_reducible refine gate_dst (N:=1) rfl ?_);refine box_event ?hg (N:=1) ?hd (cs:=#[.int .i64 a0_0,.int .i64 a0_1]) (t:=27) ?hr ?_;(case hd=>rfl);(case hg=>rfl);(case hr=>first|(go_simp;done)|(go_simp;rfl));intro gb180 hg w8 hbox hb;have n0_:=zM (bG (by repeat (first|(with_reducible first|exact HB.out|apply bE|apply bD|apply bF)|exact HB.out)) hb);have n1_:=zM (hbox);have n2_:=zM ((by rw [hg];exact (below_size (by repeat (first|(with_reducible first|exact HB.out|apply bE|apply bD|apply bF)|exact HB.out))):w.heap.size ≤ gb180));have n3_:=zM ((by rw [hg];exact (below_size (by repeat (first|(with_reducible first|exact HB.out|apply bE|apply bD|apply bF)|exact HB.out))):w.heap.size ≤ gb180));clear HB;have HB:=n0_;have BK180:=n1_;have GW180:=n2_;have GE180:=n3_;clear n0_ n1_ n2_ n3_;clear hb hbox hg;have hcz9_0:w8.cell? ⟨gb180,0,none⟩ = some (.int .i64 a0_0):=(blk_cell BK180.out 0).trans rfl;have hcz9_1:w8.cell? ⟨gb180,1,none⟩ = some (.int .i64 a0_1):=(blk_cell BK180.out 1).trans rfl;have hfz9_0:=blk_frozen BK180.out 0;have hfz9_1:=blk_frozen BK180.out 1)|((with_reducible refine gate_callee (f:=53) rfl ?_);refine goesL_ (some 5) rfl rfl Try.func53 (by kernel_rfl) rfl #[.int .i64 a0_1,.int .i64 1,.int .i64 1000000] rfl (by (try simp only [List.map_toArray,List.map_cons,List.map_nil]);first|done|rfl|(simp only [List.length_drop,List.length_take];rfl)) ?_;(with_reducible refine (impl_in.calls a0_1 1 1000000 true _ A2.out).mono ?_);rintro e w' ⟨rfl,⟨nd,rfl⟩⟩;refine ⟨_,rfl,?_⟩)|(go_at_call 53;(with_reducible refine (impl_in.calls a0_0 0 a0_1 false _ A4.out).mono ?_);rintro e w' ⟨rfl,⟨nd,rfl⟩⟩))
   go_ret
   exact ⟨by first|rfl|(simp [*,errW_none,errW_some] <;> rfl),by repeat (first|(with_reducible first|exact HB.out|apply bE|apply bD|apply bF|refine below_set ?_ GE180.out)|exact HB.out)⟩
 ·replace c3:=Bool.eq_false_iff.mpr c3
  subst c3
  have H1:(some false) = some r:=by rw [if_neg (show ¬ (false = true) by decide)] at H;exact H
  clear H
  have H:=H1
  clear H1
  obtain rfl:=Option.some.inj H
  simp only [zI,zJ] at H
  obtain ⟨rfl⟩:=H
  go_enter Try.func75,Try.ntmps75
  go_wp2_with (first|((with_reducible refine gate_dst (N:=1) rfl ?_);refine box_event ?hg (N:=1) ?hd (cs:=#[.int .i64 a0_0,.int .i64 a0_1]) (t:=27) ?hr ?_;(case hd=>rfl);(case hg=>rfl);(case hr=>first|(go_simp;done)|(go_simp;rfl));intro gb180 hg w10 hbox hb;have n0_:=zM (bG (by repeat (first|(with_reducible first|exact HB.out|apply bE|apply bD|apply bF)|exact HB.out)) hb);have n1_:=zM (hbox);have n2_:=zM ((by rw [hg];exact (below_size (by repeat (first|(with_reducible first|exact HB.out|apply bE|apply bD|apply bF)|exact HB.out))):w.heap.size ≤ gb180));have n3_:=zM ((by rw [hg];exact (below_size (by repeat (first|(with_reducible first|exact HB.out|apply bE|apply bD|apply bF)|exact HB.out))):w.heap.size ≤ gb180));clear HB;have HB:=n0_;have BK180:=n1_;have GW180:=n2_;have GE180:=n3_;clear n0_ n1_ n2_ n3_;clear hb hbox hg;have hcz11_0:w10.cell? ⟨gb180,0,none⟩ = some (.int .i64 a0_0):=(blk_cell BK180.out 0).trans rfl;have hcz11_1:w10.cell? ⟨gb180,1,none⟩ = some (.int .i64 a0_1):=(blk_cell BK180.out 1).trans rfl;have hfz11_0:=blk_frozen BK180.out 0;have hfz11_1:=blk_frozen BK180.out 1)|((with_reducible refine gate_callee (f:=53) rfl ?_);refine goesL_ (some 5) rfl rfl Try.func53 (by kernel_rfl) rfl #[.int .i64 a0_1,.int .i64 1,.int .i64 1000000] rfl (by (try simp only [List.map_toArray,List.map_cons,List.map_nil]);first|done|rfl|(simp only [List.length_drop,List.length_take];rfl)) ?_;(with_reducible refine (impl_in.calls a0_1 1 1000000 false _ A2.out).mono ?_);rintro e w' ⟨rfl,⟨nd,rfl⟩⟩;refine ⟨_,rfl,?_⟩))
  go_ret
  exact ⟨by first|rfl|(simp [*,errW_none,errW_some] <;> rfl),by repeat (first|(with_reducible first|exact HB.out|apply bE|apply bD|apply bF|refine below_set ?_ GE180.out)|exact HB.out)⟩

/-! ### impl_isTime: function 76 -/
def impl_isTime.f (a0:Int):Option (Bool):=(impl_in.f a0 0 1000000000000).bind fun t183=>(some t183)
theorem impl_isTime.calls (a0:Int) (r:Bool) (w:World) (h:impl_isTime.f a0 = some r) :
  Calls Try.prog 76 #[.int .i64 a0] w fun e w'=>e = .returned (.bool r) ∧ Drawn0 w w':=by
 have H:((impl_in.f a0 0 1000000000000).bind fun t183=>(some t183)) = some r:=h
 clear h
 replace H:=zO H
 obtain ⟨t183,A20,H⟩:=H
 replace H:(some t183) = some r:=H
 have A2:=zM A20
 clear A20
 obtain rfl:=Option.some.inj H
 simp only [zI,zJ] at H
 obtain ⟨rfl⟩:=H
 go_enter Try.func76,Try.ntmps76
 go_wp2_with (first|((with_reducible refine gate_callee (f:=53) rfl ?_);refine goesL_ (some 4) rfl rfl Try.func53 (by kernel_rfl) rfl #[.int .i64 a0,.int .i64 0,.int .i64 1000000000000] rfl (by (try simp only [List.map_toArray,List.map_cons,List.map_nil]);first|done|rfl|(simp only [List.length_drop,List.length_take];rfl)) ?_;(with_reducible refine (impl_in.calls a0 0 1000000000000 t183 _ A2.out).mono ?_);rintro e w' ⟨rfl,⟨nd,rfl⟩⟩;refine ⟨_,rfl,?_⟩))
 go_ret
 exact ⟨by first|rfl|(simp;done)|(simp [*];done),by repeat (first|exact Drawn0.refl _|apply Drawn0.step)⟩

/-! ### impl_MayCount: function 81 -/
def impl_MayCount.f (a0_0:Int) (a0_1:Int) (a1:Int) (a2:Int):Option (Bool):=(impl_DriftOk.f a0_0 a0_1).bind fun t185=>(if t185 = true then ((impl_isTime.f a1).bind fun t186=>(if t186 = true then ((impl_isTime.f a2).bind fun t187=>(if t187 = true then (if (wrap64 (a1 * (wrap64 (a0_1 - a0_0)))) ≤ (wrap64 (a2 * a0_1)) then (some (decide ((wrap64 (a2 * a0_1)) ≤ (wrap64 (a1 * (wrap64 (a0_1 + a0_0))))))) else (some false)) else (some false))) else (some false))) else (some false))
theorem impl_MayCount.calls (a0_0:Int) (a0_1:Int) (a1:Int) (a2:Int) (r:Bool) (w:World) (h:impl_MayCount.f a0_0 a0_1 a1 a2 = some r) :
  Calls Try.prog 81 #[.agg #[.int .i64 a0_0,.int .i64 a0_1],.int .i64 a1,.int .i64 a2] w fun e w'=>e = .returned (.bool r) ∧ Below w.heap.size w w':=by
 have hu27:=Try.underlying27
 have HB:=zM (Below.refl w.heap.size w)
 have H:((impl_DriftOk.f a0_0 a0_1).bind fun t185=>(if t185 = true then ((impl_isTime.f a1).bind fun t186=>(if t186 = true then ((impl_isTime.f a2).bind fun t187=>(if t187 = true then (if (wrap64 (a1 * (wrap64 (a0_1 - a0_0)))) ≤ (wrap64 (a2 * a0_1)) then (some (decide ((wrap64 (a2 * a0_1)) ≤ (wrap64 (a1 * (wrap64 (a0_1 + a0_0))))))) else (some false)) else (some false))) else (some false))) else (some false))) = some r:=h
 clear h
 replace H:=zO H
 obtain ⟨t185,A40,H⟩:=H
 replace H:(if t185 = true then ((impl_isTime.f a1).bind fun t186=>(if t186 = true then ((impl_isTime.f a2).bind fun t187=>(if t187 = true then (if (wrap64 (a1 * (wrap64 (a0_1 - a0_0)))) ≤ (wrap64 (a2 * a0_1)) then (some (decide ((wrap64 (a2 * a0_1)) ≤ (wrap64 (a1 * (wrap64 (a0_1 + a0_0))))))) else (some false)) else (some false))) else (some false))) else (some false)) = some r:=H
 have A4:=zM A40
 clear A40
 by_cases c5:t185 = true
 ·subst c5
  have H1:((impl_isTime.f a1).bind fun t186=>(if t186 = true then ((impl_isTime.f a2).bind fun t187=>(if t187 = true then (if (wrap64 (a1 * (wrap64 (a0_1 - a0_0)))) ≤ (wrap64 (a2 * a0_1)) then (some (decide ((wrap64 (a2 * a0_1)) ≤ (wrap64 (a1 * (wrap64 (a0_1 + a0_0))))))) else (some false)) else (some false))) else (some false))) = some r:=by rw [if_pos rfl] at H;exact H
  clear H
  have H:=H1
  clear H1
  replace H:=zO H
  obtain ⟨t186,A60,H⟩:=H
  replace H:(if t186 = true then ((impl_isTime.f a2).bind fun t187=>(if t187 = true then (if (wrap64 (a1 * (wrap64 (a0_1 - a0_0)))) ≤ (wrap64 (a2 * a0_1)) then (some (decide ((wrap64 (a2 * a0_1)) ≤ (wrap64 (a1 * (wrap64 (a0_1 + a0_0))))))) else (some false)) else (some false))) else (some false)) = some r:=H
  have A6:=zM A60
  clear A60
  by_cases c7:t186 = true
  ·subst c7
   have H1:((impl_isTime.f a2).bind fun t187=>(if t187 = true then (if (wrap64 (a1 * (wrap64 (a0_1 - a0_0)))) ≤ (wrap64 (a2 * a0_1)) then (some (decide ((wrap64 (a2 * a0_1)) ≤ (wrap64 (a1 * (wrap64 (a0_1 + a0_0))))))) else (some false)) else (some false))) = some r:=by rw [if_pos rfl] at H;exact H
   clear H
   have H:=H1
   clear H1
   replace H:=zO H
   obtain ⟨t187,A80,H⟩:=H
   replace H:(if t187 = true then (if (wrap64 (a1 * (wrap64 (a0_1 - a0_0)))) ≤ (wrap64 (a2 * a0_1)) then (some (decide ((wrap64 (a2 * a0_1)) ≤ (wrap64 (a1 * (wrap64 (a0_1 + a0_0))))))) else (some false)) else (some false)) = some r:=H
   have A8:=zM A80
   clear A80
   by_cases c9:t187 = true
   ·subst c9
    have H1:(if (wrap64 (a1 * (wrap64 (a0_1 - a0_0)))) ≤ (wrap64 (a2 * a0_1)) then (some (decide ((wrap64 (a2 * a0_1)) ≤ (wrap64 (a1 * (wrap64 (a0_1 + a0_0))))))) else (some false)) = some r:=by rw [if_pos rfl] at H;exact H
    clear H
    have H:=H1
    clear H1
    by_cases c10:(wrap64 (a1 * (wrap64 (a0_1 - a0_0)))) ≤ (wrap64 (a2 * a0_1))
    ·rw [if_pos c10] at H
     have c10b0:decide ((wrap64 (a1 * (wrap64 (a0_1 - a0_0)))) ≤ (wrap64 (a2 * a0_1))) = true:=decide_eq_true c10
     clear c10
     obtain rfl:=Option.some.inj H
     simp only [zI,zJ] at H
     obtain ⟨rfl⟩:=H
     go_enter Try.func81,Try.ntmps81
     go_wp2_with (first|((with_reducible refine gate_dst (N:=3) rfl ?_);refine box_event ?hg (N:=3) ?hd (cs:=#[.int .i64 a0_0,.int .i64 a0_1]) (t:=27) ?hr ?_;(case hd=>rfl);(case hg=>rfl);(case hr=>first|(go_simp;done)|(go_simp;rfl));intro gb184 hg w11 hbox hb;have n0_:=zM (bG (by repeat (first|(with_reducible first|exact HB.out|apply bE|apply bD|apply bF)|exact HB.out)) hb);have n1_:=zM (hbox);have n2_:=zM ((by rw [hg];exact (below_size (by repeat (first|(with_reducible first|exact HB.out|apply bE|apply bD|apply bF)|exact HB.out))):w.heap.size ≤ gb184));have n3_:=zM ((by rw [hg];exact (below_size (by repeat (first|(with_reducible first|exact HB.out|apply bE|apply bD|apply bF)|exact HB.out))):w.heap.size ≤ gb184));clear HB;have HB:=n0_;have BK184:=n1_;have GW184:=n2_;have GE184:=n3_;clear n0_ n1_ n2_ n3_;clear hb hbox hg;have hcz12_0:w11.cell? ⟨gb184,0,none⟩ = some (.int .i64 a0_0):=(blk_cell BK184.out 0).trans rfl;have hcz12_1:w11.cell? ⟨gb184,1,none⟩ = some (.int .i64 a0_1):=(blk_cell BK184.out 1).trans rfl;have hfz12_0:=blk_frozen BK184.out 0;have hfz12_1:=blk_frozen BK184.out 1)|((with_reducible refine gate_callee (f:=75) rfl ?_);refine goesL_ (some 8) rfl rfl Try.func75 (by kernel_rfl) rfl #[.agg #[.int .i64 a0_0,.int .i64 a0_1]] rfl (by (try simp only [List.map_toArray,List.map_cons,List.map_nil]);first|done|rfl|(simp only [List.length_drop,List.length_take];rfl)) ?_;(with_reducible refine (impl_DriftOk.calls a0_0 a0_1 true _ A4.out).mono ?_);rintro e w13 ⟨rfl,hb⟩;refine ⟨_,rfl,?_⟩;have n0_:=zM (blk_below (g:=gb184) (o:=.cells #[.int .i64 a0_0,.int .i64 a0_1] 27 (0,0)) (by (with_reducible repeat (first|refine bA ?_ _|refine bB ?_|refine bC ?_ _));exact BK184.out) hb);have n1_:=zM (bG (by repeat (first|(with_reducible first|exact HB.out|apply bE|apply bD|apply bF|refine below_set ?_ GE184.out)|exact HB.out)) hb);clear BK184;clear HB;have BK184:=n0_;have HB:=n1_;clear n0_ n1_;(try clear hb);(try clear hk);(try clear hi))|(go_at_call 76;(with_reducible refine (impl_isTime.calls a1 true _ A6.out).mono ?_);rintro e w' ⟨rfl,⟨nd,rfl⟩⟩)|(go_at_call 76;(with_reducible refine (impl_isTime.calls a2 true _ A8.out).mono ?_);rintro e w' ⟨rfl,⟨nd,rfl⟩⟩;have hcz14_0:w13.cell? ⟨gb184,0,none⟩ = some (.int .i64 a0_0):=(blk_cell BK184.out 0).trans rfl;have hcz14_1:w13.cell? ⟨gb184,1,none⟩ = some (.int .i64 a0_1):=(blk_cell BK184.out 1).trans rfl;have hfz14_0:=blk_frozen BK184.out 0;have hfz14_1:=blk_frozen BK184.out 1))
     go_ret
     exact ⟨by first|rfl|(simp [*,errW_none,errW_some] <;> rfl),by repeat (first|(with_reducible first|exact HB.out|apply bE|apply bD|apply bF|refine below_set ?_ GE184.out)|exact HB.out)⟩
    ·rw [if_neg c10] at H
     have c10b0:decide ((wrap64 (a1 * (wrap64 (a0_1 - a0_0)))) ≤ (wrap64 (a2 * a0_1))) = false:=decide_eq_false c10
     clear c10
     obtain rfl:=Option.some.inj H
     simp only [zI,zJ] at H
     obtain ⟨rfl⟩:=H
     go_enter Try.func81,Try.ntmps81
     go_wp2_with (first|((with_reducible refine gate_dst (N:=3) rfl ?_);refine box_event ?hg (N:=3) ?hd (cs:=#[.int .i64 a0_0,.int .i64 a0_1]) (t:=27) ?hr ?_;(case hd=>rfl);(case hg=>rfl);(case hr=>first|(go_simp;done)|(go_simp;rfl));intro gb184 hg w15 hbox hb;have n0_:=zM (bG (by repeat (first|(with_reducible first|exact HB.out|apply bE|apply bD|apply bF)|exact HB.out)) hb);have n1_:=zM (hbox);have n2_:=zM ((by rw [hg];exact (below_size (by repeat (first|(with_reducible first|exact HB.out|apply bE|apply bD|apply bF)|exact HB.out))):w.heap.size ≤ gb184));have n3_:=zM ((by rw [hg];exact (below_size (by repeat (first|(with_reducible first|exact HB.out|apply bE|apply bD|apply bF)|exact HB.out))):w.heap.size ≤ gb184));clear HB;have HB:=n0_;have BK184:=n1_;have GW184:=n2_;have GE184:=n3_;clear n0_ n1_ n2_ n3_;clear hb hbox hg;have hcz16_0:w15.cell? ⟨gb184,0,none⟩ = some (.int .i64 a0_0):=(blk_cell BK184.out 0).trans rfl;have hcz16_1:w15.cell? ⟨gb184,1,none⟩ = some (.int .i64 a0_1):=(blk_cell BK184.out 1).trans rfl;have hfz16_0:=blk_frozen BK184.out 0;have hfz16_1:=blk_frozen BK184.out 1)|((with_reducible refine gate_callee (f:=75) rfl ?_);refine goesL_ (some 8) rfl rfl Try.func75 (by kernel_rfl) rfl #[.agg #[.int .i64 a0_0,.int .i64 a0_1]] rfl (by (try simp only [List.map_toArray,List.map_cons,List.map_nil]);first|done|rfl|(simp only [List.length_drop,List.length_take];rfl)) ?_;(with_reducible refine (impl_DriftOk.calls a0_0 a0_1 true _ A4.out).mono ?_);rintro e w17 ⟨rfl,hb⟩;refine ⟨_,rfl,?_⟩;have n0_:=zM (blk_below (g:=gb184) (o:=.cells #[.int .i64 a0_0,.int .i64 a0_1] 27 (0,0)) (by (with_reducible repeat (first|refine bA ?_ _|refine bB ?_|refine bC ?_ _));exact BK184.out) hb);have n1_:=zM (bG (by repeat (first|(with_reducible first|exact HB.out|apply bE|apply bD|apply bF|refine below_set ?_ GE184.out)|exact HB.out)) hb);clear BK184;clear HB;have BK184:=n0_;have HB:=n1_;clear n0_ n1_;(try clear hb);(try clear hk);(try clear hi))|(go_at_call 76;(with_reducible refine (impl_isTime.calls a1 true _ A6.out).mono ?_);rintro e w' ⟨rfl,⟨nd,rfl⟩⟩)|(go_at_call 76;(with_reducible refine (impl_isTime.calls a2 true _ A8.out).mono ?_);rintro e w' ⟨rfl,⟨nd,rfl⟩⟩;have hcz18_0:w17.cell? ⟨gb184,0,none⟩ = some (.int .i64 a0_0):=(blk_cell BK184.out 0).trans rfl;have hcz18_1:w17.cell? ⟨gb184,1,none⟩ = some (.int .i64 a0_1):=(blk_cell BK184.out 1).trans rfl;have hfz18_0:=blk_frozen BK184.out 0;have hfz18_1:=blk_frozen BK184.out 1))
     go_ret
     exact ⟨by first|rfl|(simp [*,errW_none,errW_some] <;> rfl),by repeat (first|(with_reducible first|exact HB.out|apply bE|apply bD|apply bF|refine below_set ?_ GE184.out)|exact HB.out)⟩
   ·replace c9:=Bool.eq_false_iff.mpr c9
    subst c9
    have H1:(some false) = some r:=by rw [if_neg (show ¬ (false = true) by decide)] at H;exact H
    clear H
    have H:=H1
    clear H1
    obtain rfl:=Option.some.inj H
    simp only [zI,zJ] at H
    obtain ⟨rfl⟩:=H
    go_enter Try.func81,Try.ntmps81
    go_wp2_with (first|((with_reducible refine gate_dst (N:=3) rfl ?_);refine box_event ?hg (N:=3) ?hd (cs:=#[.int .i64 a0_0,.int .i64 a0_1]) (t:=27) ?hr ?_;(case hd=>rfl);(case hg=>rfl);(case hr=>first|(go_simp;done)|(go_simp;rfl));intro gb184 hg w19 hbox hb;have n0_:=zM (bG (by repeat (first|(with_reducible first|exact HB.out|apply bE|apply bD|apply bF)|exact HB.out)) hb);have n1_:=zM (hbox);have n2_:=zM ((by rw [hg];exact (below_size (by repeat (first|(with_reducible first|exact HB.out|apply bE|apply bD|apply bF)|exact HB.out))):w.heap.size ≤ gb184));have n3_:=zM ((by rw [hg];exact (below_size (by repeat (first|(with_reducible first|exact HB.out|apply bE|apply bD|apply bF)|exact HB.out))):w.heap.size ≤ gb184));clear HB;have HB:=n0_;have BK184:=n1_;have GW184:=n2_;have GE184:=n3_;clear n0_ n1_ n2_ n3_;clear hb hbox hg;have hcz20_0:w19.cell? ⟨gb184,0,none⟩ = some (.int .i64 a0_0):=(blk_cell BK184.out 0).trans rfl;have hcz20_1:w19.cell? ⟨gb184,1,none⟩ = some (.int .i64 a0_1):=(blk_cell BK184.out 1).trans rfl;have hfz20_0:=blk_frozen BK184.out 0;have hfz20_1:=blk_frozen BK184.out 1)|((with_reducible refine gate_callee (f:=75) rfl ?_);refine goesL_ (some 8) rfl rfl Try.func75 (by kernel_rfl) rfl #[.agg #[.int .i64 a0_0,.int .i64 a0_1]] rfl (by (try simp only [List.map_toArray,List.map_cons,List.map_nil]);first|done|rfl|(simp only [List.length_drop,List.length_take];rfl)) ?_;(with_reducible refine (impl_DriftOk.calls a0_0 a0_1 true _ A4.out).mono ?_);rintro e w21 ⟨rfl,hb⟩;refine ⟨_,rfl,?_⟩;have n0_:=zM (blk_below (g:=gb184) (o:=.cells #[.int .i64 a0_0,.int .i64 a0_1] 27 (0,0)) (by (with_reducible repeat (first|refine bA ?_ _|refine bB ?_|refine bC ?_ _));exact BK184.out) hb);have n1_:=zM (bG (by repeat (first|(with_reducible first|exact HB.out|apply bE|apply bD|apply bF|refine below_set ?_ GE184.out)|exact HB.out)) hb);clear BK184;clear HB;have BK184:=n0_;have HB:=n1_;clear n0_ n1_;(try clear hb);(try clear hk);(try clear hi))|(go_at_call 76;(with_reducible refine (impl_isTime.calls a1 true _ A6.out).mono ?_);rintro e w' ⟨rfl,⟨nd,rfl⟩⟩)|(go_at_call 76;(with_reducible refine (impl_isTime.calls a2 false _ A8.out).mono ?_);rintro e w' ⟨rfl,⟨nd,rfl⟩⟩))
    go_ret
    exact ⟨by first|rfl|(simp [*,errW_none,errW_some] <;> rfl),by repeat (first|(with_reducible first|exact HB.out|apply bE|apply bD|apply bF|refine below_set ?_ GE184.out)|exact HB.out)⟩
  ·replace c7:=Bool.eq_false_iff.mpr c7
   subst c7
   have H1:(some false) = some r:=by rw [if_neg (show ¬ (false = true) by decide)] at H;exact H
   clear H
   have H:=H1
   clear H1
   obtain rfl:=Option.some.inj H
   simp only [zI,zJ] at H
   obtain ⟨rfl⟩:=H
   go_enter Try.func81,Try.ntmps81
   go_wp2_with (first|((with_reducible refine gate_dst (N:=3) rfl ?_);refine box_event ?hg (N:=3) ?hd (cs:=#[.int .i64 a0_0,.int .i64 a0_1]) (t:=27) ?hr ?_;(case hd=>rfl);(case hg=>rfl);(case hr=>first|(go_simp;done)|(go_simp;rfl));intro gb184 hg w22 hbox hb;have n0_:=zM (bG (by repeat (first|(with_reducible first|exact HB.out|apply bE|apply bD|apply bF)|exact HB.out)) hb);have n1_:=zM (hbox);have n2_:=zM ((by rw [hg];exact (below_size (by repeat (first|(with_reducible first|exact HB.out|apply bE|apply bD|apply bF)|exact HB.out))):w.heap.size ≤ gb184));have n3_:=zM ((by rw [hg];exact (below_size (by repeat (first|(with_reducible first|exact HB.out|apply bE|apply bD|apply bF)|exact HB.out))):w.heap.size ≤ gb184));clear HB;have HB:=n0_;have BK184:=n1_;have GW184:=n2_;have GE184:=n3_;clear n0_ n1_ n2_ n3_;clear hb hbox hg;have hcz23_0:w22.cell? ⟨gb184,0,none⟩ = some (.int .i64 a0_0):=(blk_cell BK184.out 0).trans rfl;have hcz23_1:w22.cell? ⟨gb184,1,none⟩ = some (.int .i64 a0_1):=(blk_cell BK184.out 1).trans rfl;have hfz23_0:=blk_frozen BK184.out 0;have hfz23_1:=blk_frozen BK184.out 1)|((with_reducible refine gate_callee (f:=75) rfl ?_);refine goesL_ (some 8) rfl rfl Try.func75 (by kernel_rfl) rfl #[.agg #[.int .i64 a0_0,.int .i64 a0_1]] rfl (by (try simp only [List.map_toArray,List.map_cons,List.map_nil]);first|done|rfl|(simp only [List.length_drop,List.length_take];rfl)) ?_;(with_reducible refine (impl_DriftOk.calls a0_0 a0_1 true _ A4.out).mono ?_);rintro e w24 ⟨rfl,hb⟩;refine ⟨_,rfl,?_⟩;have n0_:=zM (blk_below (g:=gb184) (o:=.cells #[.int .i64 a0_0,.int .i64 a0_1] 27 (0,0)) (by (with_reducible repeat (first|refine bA ?_ _|refine bB ?_|refine bC ?_ _));exact BK184.out) hb);have n1_:=zM (bG (by repeat (first|(with_reducible first|exact HB.out|apply bE|apply bD|apply bF|refine below_set ?_ GE184.out)|exact HB.out)) hb);clear BK184;clear HB;have BK184:=n0_;have HB:=n1_;clear n0_ n1_;(try clear hb);(try clear hk);(try clear hi))|(go_at_call 76;(with_reducible refine (impl_isTime.calls a1 false _ A6.out).mono ?_);rintro e w' ⟨rfl,⟨nd,rfl⟩⟩))
   go_ret
   exact ⟨by first|rfl|(simp [*,errW_none,errW_some] <;> rfl),by repeat (first|(with_reducible first|exact HB.out|apply bE|apply bD|apply bF|refine below_set ?_ GE184.out)|exact HB.out)⟩
 ·replace c5:=Bool.eq_false_iff.mpr c5
  subst c5
  have H1:(some false) = some r:=by rw [if_neg (show ¬ (false = true) by decide)] at H;exact H
  clear H
  have H:=H1
  clear H1
  obtain rfl:=Option.some.inj H
  simp only [zI,zJ] at H
  obtain ⟨rfl⟩:=H
  go_enter Try.func81,Try.ntmps81
  go_wp2_with (first|((with_reducible refine gate_dst (N:=3) rfl ?_);refine box_event ?hg (N:=3) ?hd (cs:=#[.int .i64 a0_0,.int .i64 a0_1]) (t:=27) ?hr ?_;(case hd=>rfl);(case hg=>rfl);(case hr=>first|(go_simp;done)|(go_simp;rfl));intro gb184 hg w25 hbox hb;have n0_:=zM (bG (by repeat (first|(with_reducible first|exact HB.out|apply bE|apply bD|apply bF)|exact HB.out)) hb);have n1_:=zM (hbox);have n2_:=zM ((by rw [hg];exact (below_size (by repeat (first|(with_reducible first|exact HB.out|apply bE|apply bD|apply bF)|exact HB.out))):w.heap.size ≤ gb184));have n3_:=zM ((by rw [hg];exact (below_size (by repeat (first|(with_reducible first|exact HB.out|apply bE|apply bD|apply bF)|exact HB.out))):w.heap.size ≤ gb184));clear HB;have HB:=n0_;have BK184:=n1_;have GW184:=n2_;have GE184:=n3_;clear n0_ n1_ n2_ n3_;clear hb hbox hg;have hcz26_0:w25.cell? ⟨gb184,0,none⟩ = some (.int .i64 a0_0):=(blk_cell BK184.out 0).trans rfl;have hcz26_1:w25.cell? ⟨gb184,1,none⟩ = some (.int .i64 a0_1):=(blk_cell BK184.out 1).trans rfl;have hfz26_0:=blk_frozen BK184.out 0;have hfz26_1:=blk_frozen BK184.out 1)|((with_reducible refine gate_callee (f:=75) rfl ?_);refine goesL_ (some 8) rfl rfl Try.func75 (by kernel_rfl) rfl #[.agg #[.int .i64 a0_0,.int .i64 a0_1]] rfl (by (try simp only [List.map_toArray,List.map_cons,List.map_nil]);first|done|rfl|(simp only [List.length_drop,List.length_take];rfl)) ?_;(with_reducible refine (impl_DriftOk.calls a0_0 a0_1 false _ A4.out).mono ?_);rintro e w27 ⟨rfl,hb⟩;refine ⟨_,rfl,?_⟩;have n0_:=zM (blk_below (g:=gb184) (o:=.cells #[.int .i64 a0_0,.int .i64 a0_1] 27 (0,0)) (by (with_reducible repeat (first|refine bA ?_ _|refine bB ?_|refine bC ?_ _));exact BK184.out) hb);have n1_:=zM (bG (by repeat (first|(with_reducible first|exact HB.out|apply bE|apply bD|apply bF|refine below_set ?_ GE184.out)|exact HB.out)) hb);clear BK184;clear HB;have BK184:=n0_;have HB:=n1_;clear n0_ n1_;(try clear hb);(try clear hk);(try clear hi)))
  go_ret
  exact ⟨by first|rfl|(simp [*,errW_none,errW_some] <;> rfl),by repeat (first|(with_reducible first|exact HB.out|apply bE|apply bD|apply bF|refine below_set ?_ GE184.out)|exact HB.out)⟩

/-! ### impl_MarksOk_1: function 46 -/
def impl_MarksOk_1.f (a0:Int) (a1:Int):Option (Bool):=some ((wrap64 (a0 + 1)) == a1)
theorem impl_MarksOk_1.calls (a0:Int) (a1:Int) (r:Bool) (w:World) (h:impl_MarksOk_1.f a0 a1 = some r) :
  Calls Try.prog 46 #[.int .i64 a0,.int .i64 a1] w fun e w'=>e = .returned (.bool r) ∧ Drawn0 w w':=by
 have H:(some ((wrap64 (a0 + 1)) == a1)) = some r:=h
 clear h
 obtain rfl:=Option.some.inj H
 simp only [zI,zJ] at H
 obtain ⟨rfl⟩:=H
 go_enter Try.func46,Try.ntmps46
 go_wp2
 go_ret
 exact ⟨by first|rfl|(simp;done)|(simp [*];done),by repeat (first|exact Drawn0.refl _|apply Drawn0.step)⟩

/-! ### impl_marksOk_46: function 45 -/
mutual
def impl_marksOk_46.j0:Nat → List (S38) → Bool → Int → Int → Option (Bool)
 | 0,_,_,_,_=>none
 | k + 1,x1,x19,x189000,x189001=>if x19 = true then (some false) else (impl_marksOk_46.l0 k x1 x1 (x1.length:Int) 0 x189000 x189001)
def impl_marksOk_46.l0:Nat → List (S38) → List (S38) → Int → Int → Int → Int → Option (Bool)
 | 0,_,_,_,_,_,_=>none
 | k + 1,x1,x20,x21,x22,x189000,x189001=>if x22 < x21 then (if 0 ≤ x22 then (if x22 < (x20.length:Int) then ((impl_isTime.f ((rd_T38 x20 x22).f0)).bind fun t193=>(if t193 = true then ((impl_isTime.f ((rd_T38 x20 x22).f1)).bind fun t194=>(impl_marksOk_46.j2 k x1 x22 x20 x21 x22 (!t194) x189000 x189001 ((rd_T38 x20 x22).f0) ((rd_T38 x20 x22).f1))) else (impl_marksOk_46.j2 k x1 x22 x20 x21 x22 true x189000 x189001 ((rd_T38 x20 x22).f0) ((rd_T38 x20 x22).f1)))) else (none)) else (none)) else (some true)
def impl_marksOk_46.j2:Nat → List (S38) → Int → List (S38) → Int → Int → Bool → Int → Int → Int → Int → Option (Bool)
 | 0,_,_,_,_,_,_,_,_,_,_=>none
 | k + 1,x1,x7,x20,x21,x22,x36,x189000,x189001,x193000,x193001=>if x36 = true then (some false) else (if 0 ≤ x7 then (if x7 ≤ (x1.length:Int) then ((some (x1.take (x7:Int).toNat:List (S38))).bind fun y195=>(impl_marksOk_46.l1 k x1 x7 x20 x21 x22 y195 (y195.length:Int) 0 x189000 x189001 x193000 x193001)) else (none)) else (none))
def impl_marksOk_46.l1:Nat → List (S38) → Int → List (S38) → Int → Int → List (S38) → Int → Int → Int → Int → Int → Int → Option (Bool)
 | 0,_,_,_,_,_,_,_,_,_,_,_,_=>none
 | k + 1,x1,x7,x20,x21,x22,x39,x40,x41,x189000,x189001,x193000,x193001=>if x41 < x40 then (if 0 ≤ x41 then (if x41 < (x39.length:Int) then ((impl_MarksOk_1.f x41 x7).bind fun t201=>(if t201 = true then ((impl_MayCount.f x189000 x189001 (wrap64 (x193000 - ((rd_T38 x39 x41).f0))) (wrap64 (x193001 - ((rd_T38 x39 x41).f1)))).bind fun t202=>(if t202 = true then (impl_marksOk_46.l1 k x1 x7 x20 x21 x22 x39 x40 (wrap64 (x41 + 1)) x189000 x189001 x193000 x193001) else (some false))) else (impl_marksOk_46.l1 k x1 x7 x20 x21 x22 x39 x40 (wrap64 (x41 + 1)) x189000 x189001 x193000 x193001))) else (none)) else (none)) else (impl_marksOk_46.l0 k x1 x20 x21 (wrap64 (x22 + 1)) x189000 x189001)
end
def impl_marksOk_46.f (k:Nat) (a0_0:Int) (a0_1:Int) (l1:List (S38)) :Option (Bool):=(impl_DriftOk.f a0_0 a0_1).bind fun t189=>(if t189 = true then ((impl_in.f (l1.length:Int) 1 201).bind fun t190=>(impl_marksOk_46.j0 k l1 (!t190) a0_0 a0_1)) else (impl_marksOk_46.j0 k l1 true a0_0 a0_1))
theorem impl_marksOk_46.mono_l:∀ k,(∀ y0 y1 y2 y3,LeO (impl_marksOk_46.j0 k y0 y1 y2 y3) (impl_marksOk_46.j0 (k + 1) y0 y1 y2 y3)) ∧ (∀ y0 y1 y2 y3 y4 y5,LeO (impl_marksOk_46.l0 k y0 y1 y2 y3 y4 y5) (impl_marksOk_46.l0 (k + 1) y0 y1 y2 y3 y4 y5)) ∧ (∀ y0 y1 y2 y3 y4 y5 y6 y7 y8 y9,LeO (impl_marksOk_46.j2 k y0 y1 y2 y3 y4 y5 y6 y7 y8 y9) (impl_marksOk_46.j2 (k + 1) y0 y1 y2 y3 y4 y5 y6 y7 y8 y9)) ∧ (∀ y0 y1 y2 y3 y4 y5 y6 y7 y8 y9 y10 y11,LeO (impl_marksOk_46.l1 k y0 y1 y2 y3 y4 y5 y6 y7 y8 y9 y10 y11) (impl_marksOk_46.l1 (k + 1) y0 y1 y2 y3 y4 y5 y6 y7 y8 y9 y10 y11))
 | 0=>⟨fun _ _ _ _ r h=>by simp [impl_marksOk_46.j0] at h,fun _ _ _ _ _ _ r h=>by simp [impl_marksOk_46.l0] at h,fun _ _ _ _ _ _ _ _ _ _ r h=>by simp [impl_marksOk_46.j2] at h,fun _ _ _ _ _ _ _ _ _ _ _ _ r h=>by simp [impl_marksOk_46.l1] at h⟩
 | k + 1=>by
  obtain ⟨ih0,ih1,ih2,ih3⟩:=impl_marksOk_46.mono_l k
  refine ⟨?_,?_,?_,?_⟩
  ·intro y0 y1 y2 y3
   unfold impl_marksOk_46.j0
   repeat' first
   | (with_reducible exact ih0 _ _ _ _)
   | (with_reducible exact ih1 _ _ _ _ _ _)
   | (with_reducible exact ih2 _ _ _ _ _ _ _ _ _ _)
   | (with_reducible exact ih3 _ _ _ _ _ _ _ _ _ _ _ _)
   | (with_reducible exact LeO.refl _)
   | (with_reducible exact LeO.none _)
   | (with_reducible refine LeO.ite ?_ ?_)
   | (with_reducible refine LeO.bind ?_ (fun _=>?_))
   | exact ih0 _ _ _ _
   | exact ih1 _ _ _ _ _ _
   | exact ih2 _ _ _ _ _ _ _ _ _ _
   | exact ih3 _ _ _ _ _ _ _ _ _ _ _ _
   | exact LeO.none _
   | refine LeO.ite ?_ ?_
   | refine LeO.bind ?_ (fun _=>?_)
  ·intro y0 y1 y2 y3 y4 y5
   unfold impl_marksOk_46.l0
   repeat' first
   | (with_reducible exact ih0 _ _ _ _)
   | (with_reducible exact ih1 _ _ _ _ _ _)
   | (with_reducible exact ih2 _ _ _ _ _ _ _ _ _ _)
   | (with_reducible exact ih3 _ _ _ _ _ _ _ _ _ _ _ _)
   | (with_reducible exact LeO.refl _)
   | (with_reducible exact LeO.none _)
   | (with_reducible refine LeO.ite ?_ ?_)
   | (with_reducible refine LeO.bind ?_ (fun _=>?_))
   | exact ih0 _ _ _ _
   | exact ih1 _ _ _ _ _ _
   | exact ih2 _ _ _ _ _ _ _ _ _ _
   | exact ih3 _ _ _ _ _ _ _ _ _ _ _ _
   | exact LeO.none _
   | refine LeO.ite ?_ ?_
   | refine LeO.bind ?_ (fun _=>?_)
  ·intro y0 y1 y2 y3 y4 y5 y6 y7 y8 y9
   unfold impl_marksOk_46.j2
   repeat' first
   | (with_reducible exact ih0 _ _ _ _)
   | (with_reducible exact ih1 _ _ _ _ _ _)
   | (with_reducible exact ih2 _ _ _ _ _ _ _ _ _ _)
   | (with_reducible exact ih3 _ _ _ _ _ _ _ _ _ _ _ _)
   | (with_reducible exact LeO.refl _)
   | (with_reducible exact LeO.none _)
   | (with_reducible refine LeO.ite ?_ ?_)
   | (with_reducible refine LeO.bind ?_ (fun _=>?_))
   | exact ih0 _ _ _ _
   | exact ih1 _ _ _ _ _ _
   | exact ih2 _ _ _ _ _ _ _ _ _ _
   | exact ih3 _ _ _ _ _ _ _ _ _ _ _ _
   | exact LeO.none _
   | refine LeO.ite ?_ ?_
   | refine LeO.bind ?_ (fun _=>?_)
  ·intro y0 y1 y2 y3 y4 y5 y6 y7 y8 y9 y10 y11
   unfold impl_marksOk_46.l1
   repeat' first
   | (with_reducible exact ih0 _ _ _ _)
   | (with_reducible exact ih1 _ _ _ _ _ _)
   | (with_reducible exact ih2 _ _ _ _ _ _ _ _ _ _)
   | (with_reducible exact ih3 _ _ _ _ _ _ _ _ _ _ _ _)
   | (with_reducible exact LeO.refl _)
   | (with_reducible exact LeO.none _)
   | (with_reducible refine LeO.ite ?_ ?_)
   | (with_reducible refine LeO.bind ?_ (fun _=>?_))
   | exact ih0 _ _ _ _
   | exact ih1 _ _ _ _ _ _
   | exact ih2 _ _ _ _ _ _ _ _ _ _
   | exact ih3 _ _ _ _ _ _ _ _ _ _ _ _
   | exact LeO.none _
   | refine LeO.ite ?_ ?_
   | refine LeO.bind ?_ (fun _=>?_)
theorem impl_marksOk_46.mono:∀ a0 a1 a2 k,LeO (impl_marksOk_46.f k a0 a1 a2) (impl_marksOk_46.f (k + 1) a0 a1 a2):=by
 intro a0 a1 a2 k
 obtain ⟨ih0,ih1,ih2,ih3⟩:=impl_marksOk_46.mono_l k
 unfold impl_marksOk_46.f
 repeat' first
   | (with_reducible exact ih0 _ _ _ _)
   | (with_reducible exact ih1 _ _ _ _ _ _)
   | (with_reducible exact ih2 _ _ _ _ _ _ _ _ _ _)
   | (with_reducible exact ih3 _ _ _ _ _ _ _ _ _ _ _ _)
   | (with_reducible exact LeO.refl _)
   | (with_reducible exact LeO.none _)
   | (with_reducible refine LeO.ite ?_ ?_)
   | (with_reducible refine LeO.bind ?_ (fun _=>?_))
   | exact ih0 _ _ _ _
   | exact ih1 _ _ _ _ _ _
   | exact ih2 _ _ _ _ _ _ _ _ _ _
   | exact ih3 _ _ _ _ _ _ _ _ _ _ _ _
   | exact LeO.none _
   | refine LeO.ite ?_ ?_
   | refine LeO.bind ?_ (fun _=>?_)
theorem impl_marksOk_46.calls (k:Nat) (a0_0:Int) (a0_1:Int) (A1:Option Addr) (c1:Nat) (l1:List (S38))  (r:Bool) (w:World) (hr1:Kd.C k38 w A1 l1.length l1) (hc1:l1.length ≤ c1) (h:impl_marksOk_46.f k a0_0 a0_1 l1 = some r) :
  Calls Try.prog 45 #[.agg #[.int .i64 a0_0,.int .i64 a0_1],.slice A1 l1.length c1,.func (.func 46) #[] #[]] w fun e w'=>e = .returned (.bool r) ∧ Below w.heap.size w w':=by
 have hu27:=Try.underlying27
 have hu38:=Try.underlying38
 have HR1:=zM hr1
 have HC1:=zM hc1
 clear hr1 hc1
 have HB:=zM (Below.refl w.heap.size w)
 have H:((impl_DriftOk.f a0_0 a0_1).bind fun t189=>(if t189 = true then ((impl_in.f (l1.length:Int) 1 201).bind fun t190=>(impl_marksOk_46.j0 k l1 (!t190) a0_0 a0_1)) else (impl_marksOk_46.j0 k l1 true a0_0 a0_1))) = some r:=h
 clear h
 have HC4:=zM H
 clear H
 go_enter Try.func45,Try.ntmps45
 go_upto_region 1 with (first|((with_reducible refine gate_dst (N:=3) rfl ?_);(try (refine gate_guard (by rfl) ?_;dsimp only));refine box_event ?hg (N:=3) ?hd (cs:=#[.int .i64 a0_0,.int .i64 a0_1]) (t:=27) ?hr ?_;(case hd=>rfl);(case hg=>rfl);(case hr=>first|(go_simp;done)|(go_simp;rfl));intro gb188 hg w5 hbox hb;have n0_:=zM (bG (by repeat (first|(with_reducible first|exact HB.out|apply bE|apply bD|apply bF)|exact HB.out)) hb);have n1_:=zM (hbox);have n2_:=zM ((by rw [hg];exact (below_size (by repeat (first|(with_reducible first|exact HB.out|apply bE|apply bD|apply bF)|exact HB.out))):w.heap.size ≤ gb188));have n3_:=zM ((by rw [hg];exact (below_size (by repeat (first|(with_reducible first|exact HB.out|apply bE|apply bD|apply bF)|exact HB.out))):w.heap.size ≤ gb188));clear HB;have HB:=n0_;have BK188:=n1_;have GW188:=n2_;have GE188:=n3_;clear n0_ n1_ n2_ n3_;clear hb hbox hg))
 (try simp only [Act.put,zS,z0,z1])
 go_cut [19] (fun v19 wc=>∃ (kq:Nat) (x19_3:Bool),v19 = .bool x19_3 ∧ Aside0 (impl_marksOk_46.j0 kq l1 x19_3 a0_0 a0_1 = some r) ∧ Aside0 (kq ≤ k) ∧ Aside0 (wc.heap[gb188]? = some (.cells #[.int .i64 a0_0,.int .i64 a0_1] 27 (0,0))) ∧ Aside0 (Below w.heap.size w wc))
 case first =>
  have H:=HC4.out
  clear HC4
  replace H:=zO H
  obtain ⟨t189,A60,H⟩:=H
  replace H:(if t189 = true then ((impl_in.f (l1.length:Int) 1 201).bind fun t190=>(impl_marksOk_46.j0 k l1 (!t190) a0_0 a0_1)) else (impl_marksOk_46.j0 k l1 true a0_0 a0_1)) = some r:=H
  have A6:=zM A60
  clear A60
  by_cases c7:t189 = true
  ·subst c7
   have H1:((impl_in.f (l1.length:Int) 1 201).bind fun t190=>(impl_marksOk_46.j0 k l1 (!t190) a0_0 a0_1)) = some r:=by rw [if_pos rfl] at H;exact H
   clear H
   have H:=H1
   clear H1
   replace H:=zO H
   obtain ⟨t190,A80,H⟩:=H
   replace H:(impl_marksOk_46.j0 k l1 (!t190) a0_0 a0_1) = some r:=H
   have A8:=zM A80
   clear A80
   have H':=zM H
   clear H
   have hcz9_0:w5.cell? ⟨gb188,0,none⟩ = some (.int .i64 a0_0):=(blk_cell BK188.out 0).trans rfl
   have hcz9_1:w5.cell? ⟨gb188,1,none⟩ = some (.int .i64 a0_1):=(blk_cell BK188.out 1).trans rfl
   have hfz9_0:=blk_frozen BK188.out 0
   have hfz9_1:=blk_frozen BK188.out 1
   go_wp2_with (first|((with_reducible refine gate_callee (f:=75) rfl ?_);refine goesL_ (some 12) rfl rfl Try.func75 (by kernel_rfl) rfl #[.agg #[.int .i64 a0_0,.int .i64 a0_1]] rfl (by (try simp only [List.map_toArray,List.map_cons,List.map_nil]);first|done|rfl|(simp only [List.length_drop,List.length_take];rfl)) ?_;(with_reducible refine (impl_DriftOk.calls a0_0 a0_1 true _ A6.out).mono ?_);rintro e w10 ⟨rfl,hb⟩;refine ⟨_,rfl,?_⟩;have n0_:=zM (blk_below (g:=gb188) (o:=.cells #[.int .i64 a0_0,.int .i64 a0_1] 27 (0,0)) (by (with_reducible repeat (first|refine bA ?_ _|refine bB ?_|refine bC ?_ _));exact BK188.out) hb);have n1_:=zM (bG (by repeat (first|(with_reducible first|exact HB.out|apply bE|apply bD|apply bF|refine below_set ?_ GE188.out)|exact HB.out)) hb);clear BK188;clear HB;have BK188:=n0_;have HB:=n1_;clear n0_ n1_;(try clear hb);(try clear hk);(try clear hi))|(go_at_call 53;(with_reducible refine (impl_in.calls (l1.length:Int) 1 201 t190 _ A8.out).mono ?_);rintro e w' ⟨rfl,⟨nd,rfl⟩⟩))
   go_meet
   case rel=>exact ⟨_,(!t190),(by first|rfl|(simp;done)|(simp [*];done)),H',⟨by first|omega|exact Nat.le_refl _⟩,⟨by (with_reducible repeat (first|refine bA ?_ _|refine bB ?_|refine bC ?_ _));exact BK188.out⟩,⟨by repeat (first|(with_reducible first|exact HB.out|apply bE|apply bD|apply bF|refine below_set ?_ GE188.out)|exact HB.out)⟩⟩
  ·replace c7:=Bool.eq_false_iff.mpr c7
   subst c7
   have H1:(impl_marksOk_46.j0 k l1 true a0_0 a0_1) = some r:=by rw [if_neg (show ¬ (false = true) by decide)] at H;exact H
   clear H
   have H:=H1
   clear H1
   have H':=zM H
   clear H
   have hcz11_0:w5.cell? ⟨gb188,0,none⟩ = some (.int .i64 a0_0):=(blk_cell BK188.out 0).trans rfl
   have hcz11_1:w5.cell? ⟨gb188,1,none⟩ = some (.int .i64 a0_1):=(blk_cell BK188.out 1).trans rfl
   have hfz11_0:=blk_frozen BK188.out 0
   have hfz11_1:=blk_frozen BK188.out 1
   go_wp2_with (first|((with_reducible refine gate_callee (f:=75) rfl ?_);refine goesL_ (some 12) rfl rfl Try.func75 (by kernel_rfl) rfl #[.agg #[.int .i64 a0_0,.int .i64 a0_1]] rfl (by (try simp only [List.map_toArray,List.map_cons,List.map_nil]);first|done|rfl|(simp only [List.length_drop,List.length_take];rfl)) ?_;(with_reducible refine (impl_DriftOk.calls a0_0 a0_1 false _ A6.out).mono ?_);rintro e w12 ⟨rfl,hb⟩;refine ⟨_,rfl,?_⟩;have n0_:=zM (blk_below (g:=gb188) (o:=.cells #[.int .i64 a0_0,.int .i64 a0_1] 27 (0,0)) (by (with_reducible repeat (first|refine bA ?_ _|refine bB ?_|refine bC ?_ _));exact BK188.out) hb);have n1_:=zM (bG (by repeat (first|(with_reducible first|exact HB.out|apply bE|apply bD|apply bF|refine below_set ?_ GE188.out)|exact HB.out)) hb);clear BK188;clear HB;have BK188:=n0_;have HB:=n1_;clear n0_ n1_;(try clear hb);(try clear hk);(try clear hi)))
   go_meet
   case rel=>exact ⟨_,(true),(by first|rfl|(simp;done)|(simp [*];done)),H',⟨by first|omega|exact Nat.le_refl _⟩,⟨by (with_reducible repeat (first|refine bA ?_ _|refine bB ?_|refine bC ?_ _));exact BK188.out⟩,⟨by repeat (first|(with_reducible first|exact HB.out|apply bE|apply bD|apply bF|refine below_set ?_ GE188.out)|exact HB.out)⟩⟩
 case rest =>
  clear HC4
  try clear c1
  try clear p2
  try clear c7
  try clear hcz11_0
  try clear hcz11_1
  try clear hcz9_0
  try clear hcz9_1
  try clear hfz11_0
  try clear hfz11_1
  try clear hfz9_0
  try clear hfz9_1
  obtain ⟨kq,x19_3,rfl,HA,HJ3,BK188,HB⟩:=hcut
  cases kq with
  | zero=>exact absurd HA.out (by simp [impl_marksOk_46.j0])
  | succ kj3 =>
   have H:=HA.out
   clear HA
   simp only [impl_marksOk_46.j0] at H
   by_cases c13:x19_3 = true
   ·subst c13
    have H1:(some false) = some r:=by rw [if_pos rfl] at H;exact H
    clear H
    have H:=H1
    clear H1
    obtain rfl:=Option.some.inj H
    simp only [zI,zJ] at H
    obtain ⟨rfl⟩:=H
    go_wp2
    go_ret
    exact ⟨by first|rfl|(simp [*,errW_none,errW_some] <;> rfl),by repeat (first|(with_reducible first|exact HB.out|apply bE|apply bD|apply bF|refine below_set ?_ GE188.out)|exact HB.out)⟩
   ·replace c13:=Bool.eq_false_iff.mpr c13
    subst c13
    have H1:(impl_marksOk_46.l0 kj3 l1 l1 (l1.length:Int) 0 a0_0 a0_1) = some r:=by rw [if_neg (show ¬ (false = true) by decide)] at H;exact H
    clear H
    have H:=H1
    clear H1
    have H':=zM H
    clear H
    go_wp2
    go_loopg [22] kj3 (fun kq v22 w'=>∃ (x22_2:Int),v22 = .int .i64 x22_2 ∧ Aside0 (impl_marksOk_46.l0 kq l1 l1 (l1.length:Int) x22_2 a0_0 a0_1 = some r) ∧ Aside0 (kq ≤ kj3) ∧ Aside0 (w'.heap[gb188]? = some (.cells #[.int .i64 a0_0,.int .i64 a0_1] 27 (0,0))) ∧ Aside0 (Below w.heap.size w w'))
    case atStart=>exact ⟨(0),(by first|rfl|(simp;done)|(simp [*];done)),H',⟨Nat.le_refl _⟩,⟨by (with_reducible repeat (first|refine bA ?_ _|refine bB ?_|refine bC ?_ _));exact BK188.out⟩,⟨by repeat (first|(with_reducible first|exact HB.out|apply bE|apply bD|apply bF|refine below_set ?_ GE188.out)|exact HB.out)⟩⟩
    case round =>
     clear H'
     try clear c1
     try clear p2
     try clear c7
     try clear c13
     try clear hcz11_0
     try clear hcz11_1
     try clear hcz9_0
     try clear hcz9_1
     try clear hfz11_0
     try clear hfz11_1
     try clear hfz9_0
     try clear hfz9_1
     try clear p2
     obtain ⟨x22_2,rfl,HA,HK2,BK188,HB⟩:=hrel
     cases gk with
     | zero=>exact absurd HA.out (by simp [impl_marksOk_46.l0])
     | succ k2 =>
      have H:=HA.out
      clear HA
      simp only [impl_marksOk_46.l0] at H
      by_cases c14:x22_2 < (l1.length:Int)
      ·rw [if_pos c14] at H
       have c14b0:decide (x22_2 < (l1.length:Int)) = true:=decide_eq_true c14
       clear c14
       by_cases c15:0 ≤ x22_2
       ·rw [if_pos c15] at H
        have c15b0:decide (0 ≤ x22_2) = true:=decide_eq_true c15
        clear c15
        by_cases c16:x22_2 < (l1.length:Int)
        ·rw [if_pos c16] at H
         have c16b0:decide (x22_2 < (l1.length:Int)) = true:=decide_eq_true c16
         clear c16
         have HC17:=zM H
         clear H
         have p191:0 ≤ (x22_2:Int):=of_decide_eq_true (by first|(with_reducible assumption)|assumption)
         have q191:x22_2 < (l1.length:Int):=of_decide_eq_true (by first|(with_reducible assumption)|assumption)
         obtain ⟨ad191,e191,hx191_0,hx191_1⟩:=at_T38 HR1.out x22_2 p191 q191
         cases e191
         replace hx191_0:=(HB.out.cell (World.block_lt_of_cell? w _ hx191_0)).trans hx191_0
         replace hx191_1:=(HB.out.cell (World.block_lt_of_cell? w _ hx191_1)).trans hx191_1
         replace p191:=eq_true p191
         replace q191:=eq_true q191
         (try (have q191e:=of_eq_true q191;rw [List.length_take] at q191e;replace q191e:=Int.lt_of_lt_of_le q191e (Int.ofNat_le.mpr (Nat.min_le_left _ _));rw [Int.ofNat_toNat] at q191e;have q191g:=eq_false (Int.not_le.mpr q191e);replace q191e:=eq_true q191e))
         go_upto_region 6 with (first|((with_reducible refine gate_dst (N:=8) rfl ?_);(try (refine gate_guard (by rfl) ?_;dsimp only));refine box_event ?hg (N:=8) ?hd (cs:=#[.int .i64 0,.int .i64 0]) (t:=38) ?hr ?_;(case hd=>rfl);(case hg=>rfl);(case hr=>first|(go_simp;done)|(go_simp;rfl));intro gb192 hg w18 hbox hb;have n0_:=zM (blk_below (g:=gb188) (o:=.cells #[.int .i64 a0_0,.int .i64 a0_1] 27 (0,0)) (by (with_reducible repeat (first|refine bA ?_ _|refine bB ?_|refine bC ?_ _));exact BK188.out) hb);have n1_:=zM (bG (by repeat (first|(with_reducible first|exact HB.out|apply bE|apply bD|apply bF|refine below_set ?_ GE188.out)|exact HB.out)) hb);have n2_:=zM (hbox);have n3_:=zM ((by rw [hg];exact (below_size (by repeat (first|(with_reducible first|exact HB.out|apply bE|apply bD|apply bF|refine below_set ?_ GE188.out)|exact HB.out))):w.heap.size ≤ gb192));have n4_:=zM ((by rw [hg];exact (below_size (by repeat (first|(with_reducible first|exact HB.out|apply bE|apply bD|apply bF|refine below_set ?_ GE188.out)|exact HB.out))):w.heap.size ≤ gb192));have n5_:=zM ((by rw [hg];exact Nat.ne_of_lt (blk_lt (g:=gb188) (o:=.cells #[.int .i64 a0_0,.int .i64 a0_1] 27 (0,0)) (by (with_reducible repeat (first|refine bA ?_ _|refine bB ?_|refine bC ?_ _));exact BK188.out)):gb188 ≠ gb192));have n6_:=zM ((by rw [hg];exact Nat.ne_of_gt (blk_lt (g:=gb188) (o:=.cells #[.int .i64 a0_0,.int .i64 a0_1] 27 (0,0)) (by (with_reducible repeat (first|refine bA ?_ _|refine bB ?_|refine bC ?_ _));exact BK188.out)):gb192 ≠ gb188));clear BK188;clear HB;have BK188:=n0_;have HB:=n1_;have BK192:=n2_;have GW192:=n3_;have GE192:=n4_;have NB188_192:=n5_;have NB192_188:=n6_;clear n0_ n1_ n2_ n3_ n4_ n5_ n6_;clear hb hbox hg;have hnb19:=NB192_188.out;have hnc19:=NB188_192.out;have hcz20_0:w18.cell? ⟨gb192,0,none⟩ = some (.int .i64 0):=(blk_cell BK192.out 0).trans rfl;have hcz20_1:w18.cell? ⟨gb192,1,none⟩ = some (.int .i64 0):=(blk_cell BK192.out 1).trans rfl;have hfz20_0:=blk_frozen BK192.out 0;have hfz20_1:=blk_frozen BK192.out 1))
         (try simp only [Act.put,zS,z0,z1])
         go_cut [36] (fun v36 wc=>∃ (kq:Nat) (x36_16:Bool),v36 = .bool x36_16 ∧ Aside0 (impl_marksOk_46.j2 kq l1 x22_2 l1 (l1.length:Int) x22_2 x36_16 a0_0 a0_1 ((rd_T38 l1 x22_2).f0) ((rd_T38 l1 x22_2).f1) = some r) ∧ Aside0 (kq ≤ k2) ∧ Aside0 (wc.heap[gb188]? = some (.cells #[.int .i64 a0_0,.int .i64 a0_1] 27 (0,0))) ∧ Aside0 (wc.heap[gb192]? = some (.cells #[.int .i64 ((rd_T38 l1 x22_2).f0),.int .i64 ((rd_T38 l1 x22_2).f1)] 38 (0,0))) ∧ Aside0 (Below w.heap.size w wc))
         case first =>
          have H:=HC17.out
          clear HC17
          replace H:=zO H
          obtain ⟨t193,A210,H⟩:=H
          replace H:(if t193 = true then ((impl_isTime.f ((rd_T38 l1 x22_2).f1)).bind fun t194=>(impl_marksOk_46.j2 k2 l1 x22_2 l1 (l1.length:Int) x22_2 (!t194) a0_0 a0_1 ((rd_T38 l1 x22_2).f0) ((rd_T38 l1 x22_2).f1))) else (impl_marksOk_46.j2 k2 l1 x22_2 l1 (l1.length:Int) x22_2 true a0_0 a0_1 ((rd_T38 l1 x22_2).f0) ((rd_T38 l1 x22_2).f1))) = some r:=H
          have A21:=zM A210
          clear A210
          by_cases c22:t193 = true
          ·subst c22
           have H1:((impl_isTime.f ((rd_T38 l1 x22_2).f1)).bind fun t194=>(impl_marksOk_46.j2 k2 l1 x22_2 l1 (l1.length:Int) x22_2 (!t194) a0_0 a0_1 ((rd_T38 l1 x22_2).f0) ((rd_T38 l1 x22_2).f1))) = some r:=by rw [if_pos rfl] at H;exact H
           clear H
           have H:=H1
           clear H1
           replace H:=zO H
           obtain ⟨t194,A230,H⟩:=H
           replace H:(impl_marksOk_46.j2 k2 l1 x22_2 l1 (l1.length:Int) x22_2 (!t194) a0_0 a0_1 ((rd_T38 l1 x22_2).f0) ((rd_T38 l1 x22_2).f1)) = some r:=H
           have A23:=zM A230
           clear A230
           have H':=zM H
           clear H
           have hnb24:=NB192_188.out
           have hnc24:=NB188_192.out
           have hcz25_0:w18.cell? ⟨gb192,0,none⟩ = some (.int .i64 0):=(blk_cell BK192.out 0).trans rfl
           have hcz25_1:w18.cell? ⟨gb192,1,none⟩ = some (.int .i64 0):=(blk_cell BK192.out 1).trans rfl
           have hfz25_0:=blk_frozen BK192.out 0
           have hfz25_1:=blk_frozen BK192.out 1
           go_wp2_with (first|((with_reducible refine gate_callee (f:=76) rfl ?_);refine goesL_ (some 29) rfl rfl Try.func76 (by kernel_rfl) rfl #[.int .i64 ((rd_T38 l1 x22_2).f0)] rfl (by (try simp only [List.map_toArray,List.map_cons,List.map_nil]);first|done|rfl|(simp only [List.length_drop,List.length_take];rfl)) ?_;(with_reducible refine (impl_isTime.calls ((rd_T38 l1 x22_2).f0) true _ A21.out).mono ?_);rintro e w' ⟨rfl,⟨nd,rfl⟩⟩;refine ⟨_,rfl,?_⟩)|(go_at_call 76;(with_reducible refine (impl_isTime.calls ((rd_T38 l1 x22_2).f1) t194 _ A23.out).mono ?_);rintro e w' ⟨rfl,⟨nd,rfl⟩⟩))
           go_meet
           case rel=>exact ⟨_,(!t194),(by first|rfl|(simp;done)|(simp [*];done)),H',⟨by have:=HJ3.out;have:=HK2.out;first|omega|exact Nat.le_refl _⟩,⟨by (with_reducible repeat (first|refine bA ?_ _|refine bB ?_|refine bC ?_ _));refine blk_far ?_ NB188_192.out _;(with_reducible repeat (first|refine bA ?_ _|refine bB ?_|refine bC ?_ _));refine blk_far ?_ NB188_192.out _;(with_reducible repeat (first|refine bA ?_ _|refine bB ?_|refine bC ?_ _));exact BK188.out⟩,⟨by (with_reducible repeat (first|refine bA ?_ _|refine bB ?_|refine bC ?_ _));refine bH (cs:=#[.int .i64 ((rd_T38 l1 x22_2).f0),.int .i64 0]) ?_ 1 _ rfl;(with_reducible repeat (first|refine bA ?_ _|refine bB ?_|refine bC ?_ _));refine bH (cs:=#[.int .i64 0,.int .i64 0]) ?_ 0 _ rfl;(with_reducible repeat (first|refine bA ?_ _|refine bB ?_|refine bC ?_ _));exact BK192.out⟩,⟨by repeat (first|(with_reducible first|exact HB.out|apply bE|apply bD|apply bF|refine below_set ?_ GE188.out|refine below_set ?_ GE192.out)|exact HB.out)⟩⟩
          ·replace c22:=Bool.eq_false_iff.mpr c22
           subst c22
           have H1:(impl_marksOk_46.j2 k2 l1 x22_2 l1 (l1.length:Int) x22_2 true a0_0 a0_1 ((rd_T38 l1 x22_2).f0) ((rd_T38 l1 x22_2).f1)) = some r:=by rw [if_neg (show ¬ (false = true) by decide)] at H;exact H
           clear H
           have H:=H1
           clear H1
           have H':=zM H
           clear H
           have hnb26:=NB192_188.out
           have hnc26:=NB188_192.out
           have hcz27_0:w18.cell? ⟨gb192,0,none⟩ = some (.int .i64 0):=(blk_cell BK192.out 0).trans rfl
           have hcz27_1:w18.cell? ⟨gb192,1,none⟩ = some (.int .i64 0):=(blk_cell BK192.out 1).trans rfl
           have hfz27_0:=blk_frozen BK192.out 0
           have hfz27_1:=blk_frozen BK192.out 1
           go_wp2_with (first|((with_reducible refine gate_callee (f:=76) rfl ?_);refine goesL_ (some 29) rfl rfl Try.func76 (by kernel_rfl) rfl #[.int .i64 ((rd_T38 l1 x22_2).f0)] rfl (by (try simp only [List.map_toArray,List.map_cons,List.map_nil]);first|done|rfl|(simp only [List.length_drop,List.length_take];rfl)) ?_;(with_reducible refine (impl_isTime.calls ((rd_T38 l1 x22_2).f0) false _ A21.out).mono ?_);rintro e w' ⟨rfl,⟨nd,rfl⟩⟩;refine ⟨_,rfl,?_⟩))
           go_meet
           case rel=>exact ⟨_,(true),(by first|rfl|(simp;done)|(simp [*];done)),H',⟨by have:=HJ3.out;have:=HK2.out;first|omega|exact Nat.le_refl _⟩,⟨by (with_reducible repeat (first|refine bA ?_ _|refine bB ?_|refine bC ?_ _));refine blk_far ?_ NB188_192.out _;(with_reducible repeat (first|refine bA ?_ _|refine bB ?_|refine bC ?_ _));refine blk_far ?_ NB188_192.out _;(with_reducible repeat (first|refine bA ?_ _|refine bB ?_|refine bC ?_ _));exact BK188.out⟩,⟨by (with_reducible repeat (first|refine bA ?_ _|refine bB ?_|refine bC ?_ _));refine bH (cs:=#[.int .i64 ((rd_T38 l1 x22_2).f0),.int .i64 0]) ?_ 1 _ rfl;(with_reducible repeat (first|refine bA ?_ _|refine bB ?_|refine bC ?_ _));refine bH (cs:=#[.int .i64 0,.int .i64 0]) ?_ 0 _ rfl;(with_reducible repeat (first|refine bA ?_ _|refine bB ?_|refine bC ?_ _));exact BK192.out⟩,⟨by repeat (first|(with_reducible first|exact HB.out|apply bE|apply bD|apply bF|refine below_set ?_ GE188.out|refine below_set ?_ GE192.out)|exact HB.out)⟩⟩
         case rest =>
          clear HC17
          try clear c1
          try clear p1
          try clear q1
          try clear hx1
          try clear c2
          try clear p2
          try clear c7
          try clear c13
          try clear c14
          try clear c14b0
          try clear c15
          try clear c15b0
          try clear c16
          try clear c16b0
          try clear c19
          try clear p19
          try clear q19
          try clear hx19
          try clear c22
          try clear c24
          try clear c26
          try clear hcz11_0
          try clear hcz11_1
          try clear hcz20_0
          try clear hcz20_1
          try clear hcz25_0
          try clear hcz25_1
          try clear hcz27_0
          try clear hcz27_1
          try clear hcz9_0
          try clear hcz9_1
          try clear hfz11_0
          try clear hfz11_1
          try clear hfz20_0
          try clear hfz20_1
          try clear hfz25_0
          try clear hfz25_1
          try clear hfz27_0
          try clear hfz27_1
          try clear hfz9_0
          try clear hfz9_1
          try clear hx191_0
          try clear hx191_1
          try clear p191
          try clear p2
          try clear q191
          obtain ⟨kq,x36_16,rfl,HA,HJ16,BK188,BK192,HB⟩:=hcut
          cases kq with
          | zero=>exact absurd HA.out (by simp [impl_marksOk_46.j2])
          | succ kj16 =>
           have H:=HA.out
           clear HA
           simp only [impl_marksOk_46.j2] at H
           by_cases c28:x36_16 = true
           ·subst c28
            have H1:(some false) = some r:=by rw [if_pos rfl] at H;exact H
            clear H
            have H:=H1
            clear H1
            obtain rfl:=Option.some.inj H
            simp only [zI,zJ] at H
            obtain ⟨rfl⟩:=H
            go_wp2
            go_ret
            exact ⟨by first|rfl|(simp [*,errW_none,errW_some] <;> rfl),by repeat (first|(with_reducible first|exact HB.out|apply bE|apply bD|apply bF|refine below_set ?_ GE188.out|refine below_set ?_ GE192.out)|exact HB.out)⟩
           ·replace c28:=Bool.eq_false_iff.mpr c28
            subst c28
            have H1:(if 0 ≤ x22_2 then (if x22_2 ≤ (l1.length:Int) then ((some (l1.take (x22_2:Int).toNat:List (S38))).bind fun y195=>(impl_marksOk_46.l1 kj16 l1 x22_2 l1 (l1.length:Int) x22_2 y195 (y195.length:Int) 0 a0_0 a0_1 ((rd_T38 l1 x22_2).f0) ((rd_T38 l1 x22_2).f1))) else (none)) else (none)) = some r:=by rw [if_neg (show ¬ (false = true) by decide)] at H;exact H
            clear H
            have H:=H1
            clear H1
            by_cases c29:0 ≤ x22_2
            ·rw [if_pos c29] at H
             have c29b0:=eq_true c29
             have c29b1:decide (0 ≤ x22_2) = true:=decide_eq_true c29
             clear c29
             by_cases c30:x22_2 ≤ (l1.length:Int)
             ·rw [if_pos c30] at H
              have c30b0:=eq_true c30
              have c30b1:decide (x22_2 ≤ (l1.length:Int)) = true:=decide_eq_true c30
              clear c30
              obtain ⟨y195,hy195⟩:∃ y_:List (S38),y_ = (l1.take (x22_2:Int).toNat):=⟨_,rfl⟩
              replace H:(impl_marksOk_46.l1 kj16 l1 x22_2 l1 (l1.length:Int) x22_2 y195 (y195.length:Int) 0 a0_0 a0_1 ((rd_T38 l1 x22_2).f0) ((rd_T38 l1 x22_2).f1)) = some r:=by first|(rw [hy195];with_reducible exact H)|(have H2_:=(Option.bind_some _ _).symm.trans H;rw [hy195];with_reducible exact H2_)|(have H2_:=(Option.bind_some _ _).symm.trans H;with_reducible exact H2_)|with_reducible exact H|(rw [hy195];exact H)|exact H
              have Ny195:=zM hy195
              clear hy195
              have H':=zM H
              clear H
              have q31:(x22_2:Int) ≤ ((l1.length:Int):Int):=of_decide_eq_true (by first|(with_reducible assumption)|assumption)
              obtain ⟨i031,hi031,_,hsz31,_⟩:=info_parts info38
              have hroom31:l1.length ≤ c1:=HC1.out
              have hC31:Kd.C k38 _ (some ad191) l1.length l1:=HR1.out
              have hcut31:=cut_to (P:=Try.prog) 29 38 .i64 Try.underlying29 hi031 (some ad191) l1.length c1 x22_2 (of_decide_eq_true (by first|(with_reducible assumption)|assumption)) q31 hroom31
              have hr31:=Kd.C_take (m:=(x22_2:Int).toNat) hC31 (by omega)
              have hy31:y195.length = (x22_2:Int).toNat:=(by rw [Ny195.out,List.length_take];omega)
              rw [← Ny195.out] at hr31
              rw [← hy31] at hcut31
              have HR198:=zM hr31
              have HC198:=zM (show y195.length ≤ c1 from by omega)
              clear hr31 hC31 hroom31 hi031 hsz31
              have KY31:=zM hy31
              clear hy31
              replace q31:=eq_true q31
              (try (have q31e:=of_eq_true q31;rw [List.length_take] at q31e;replace q31e:=Int.lt_of_lt_of_le q31e (Int.ofNat_le.mpr (Nat.min_le_left _ _));rw [Int.ofNat_toNat] at q31e;have q31g:=eq_false (Int.not_le.mpr q31e);replace q31e:=eq_true q31e))
              go_wp2
              go_loopg [41] kj16 (fun kq v41 w'=>∃ (x41_4:Int),v41 = .int .i64 x41_4 ∧ Aside0 (impl_marksOk_46.l1 kq l1 x22_2 l1 (l1.length:Int) x22_2 y195 (y195.length:Int) x41_4 a0_0 a0_1 ((rd_T38 l1 x22_2).f0) ((rd_T38 l1 x22_2).f1) = some r) ∧ Aside0 (kq ≤ kj16) ∧ Aside0 (w'.heap[gb188]? = some (.cells #[.int .i64 a0_0,.int .i64 a0_1] 27 (0,0))) ∧ Aside0 (w'.heap[gb192]? = some (.cells #[.int .i64 ((rd_T38 l1 x22_2).f0),.int .i64 ((rd_T38 l1 x22_2).f1)] 38 (0,0))) ∧ Aside0 (Below w.heap.size w w'))
              case atStart=>exact ⟨(0),(by first|rfl|(simp;done)|(simp [*];done)),H',⟨Nat.le_refl _⟩,⟨by (with_reducible repeat (first|refine bA ?_ _|refine bB ?_|refine bC ?_ _));exact BK188.out⟩,⟨by (with_reducible repeat (first|refine bA ?_ _|refine bB ?_|refine bC ?_ _));exact BK192.out⟩,⟨by repeat (first|(with_reducible first|exact HB.out|apply bE|apply bD|apply bF|refine below_set ?_ GE188.out|refine below_set ?_ GE192.out)|exact HB.out)⟩⟩
              case round =>
               clear H'
               try clear c1
               try clear p1
               try clear q1
               try clear hx1
               try clear c2
               try clear p2
               try clear c3
               try clear q3
               try clear c7
               try clear c13
               try clear c14
               try clear c14b0
               try clear c15
               try clear c15b0
               try clear c16
               try clear c16b0
               try clear c19
               try clear p19
               try clear q19
               try clear hx19
               try clear c22
               try clear c24
               try clear c26
               try clear c28
               try clear c29
               try clear c29b0
               try clear c29b1
               try clear c30
               try clear c30b0
               try clear c30b1
               try clear q31
               try clear hcz11_0
               try clear hcz11_1
               try clear hcz20_0
               try clear hcz20_1
               try clear hcz25_0
               try clear hcz25_1
               try clear hcz27_0
               try clear hcz27_1
               try clear hcz9_0
               try clear hcz9_1
               try clear hfz11_0
               try clear hfz11_1
               try clear hfz20_0
               try clear hfz20_1
               try clear hfz25_0
               try clear hfz25_1
               try clear hfz27_0
               try clear hfz27_1
               try clear hfz9_0
               try clear hfz9_1
               try clear hx191_0
               try clear hx191_1
               try clear p1
               try clear p19
               try clear p191
               try clear p2
               try clear q1
               try clear q19
               try clear q191
               try clear q31
               obtain ⟨x41_4,rfl,HA,HK4,BK188,BK192,HB⟩:=hrel
               cases gk with
               | zero=>exact absurd HA.out (by simp [impl_marksOk_46.l1])
               | succ k4 =>
                have H:=HA.out
                clear HA
                simp only [impl_marksOk_46.l1] at H
                by_cases c32:x41_4 < (y195.length:Int)
                ·rw [if_pos c32] at H
                 have c32b0:decide (x41_4 < (y195.length:Int)) = true:=decide_eq_true c32
                 clear c32
                 by_cases c33:0 ≤ x41_4
                 ·rw [if_pos c33] at H
                  have c33b0:decide (0 ≤ x41_4) = true:=decide_eq_true c33
                  clear c33
                  by_cases c34:x41_4 < (y195.length:Int)
                  ·rw [if_pos c34] at H
                   have c34b0:decide (x41_4 < (y195.length:Int)) = true:=decide_eq_true c34
                   clear c34
                   replace H:=zO H
                   obtain ⟨t201,A350,H⟩:=H
                   replace H:(if t201 = true then ((impl_MayCount.f a0_0 a0_1 (wrap64 (((rd_T38 l1 x22_2).f0) - ((rd_T38 y195 x41_4).f0))) (wrap64 (((rd_T38 l1 x22_2).f1) - ((rd_T38 y195 x41_4).f1)))).bind fun t202=>(if t202 = true then (impl_marksOk_46.l1 k4 l1 x22_2 l1 (l1.length:Int) x22_2 y195 (y195.length:Int) (wrap64 (x41_4 + 1)) a0_0 a0_1 ((rd_T38 l1 x22_2).f0) ((rd_T38 l1 x22_2).f1)) else (some false))) else (impl_marksOk_46.l1 k4 l1 x22_2 l1 (l1.length:Int) x22_2 y195 (y195.length:Int) (wrap64 (x41_4 + 1)) a0_0 a0_1 ((rd_T38 l1 x22_2).f0) ((rd_T38 l1 x22_2).f1))) = some r:=H
                   have A35:=zM A350
                   clear A350
                   by_cases c36:t201 = true
                   ·subst c36
                    have H1:((impl_MayCount.f a0_0 a0_1 (wrap64 (((rd_T38 l1 x22_2).f0) - ((rd_T38 y195 x41_4).f0))) (wrap64 (((rd_T38 l1 x22_2).f1) - ((rd_T38 y195 x41_4).f1)))).bind fun t202=>(if t202 = true then (impl_marksOk_46.l1 k4 l1 x22_2 l1 (l1.length:Int) x22_2 y195 (y195.length:Int) (wrap64 (x41_4 + 1)) a0_0 a0_1 ((rd_T38 l1 x22_2).f0) ((rd_T38 l1 x22_2).f1)) else (some false))) = some r:=by rw [if_pos rfl] at H;exact H
                    clear H
                    have H:=H1
                    clear H1
                    replace H:=zO H
                    obtain ⟨t202,A370,H⟩:=H
                    replace H:(if t202 = true then (impl_marksOk_46.l1 k4 l1 x22_2 l1 (l1.length:Int) x22_2 y195 (y195.length:Int) (wrap64 (x41_4 + 1)) a0_0 a0_1 ((rd_T38 l1 x22_2).f0) ((rd_T38 l1 x22_2).f1)) else (some false)) = some r:=H
                    have A37:=zM A370
                    clear A370
                    by_cases c38:t202 = true
                    ·subst c38
                     have H1:(impl_marksOk_46.l1 k4 l1 x22_2 l1 (l1.length:Int) x22_2 y195 (y195.length:Int) (wrap64 (x41_4 + 1)) a0_0 a0_1 ((rd_T38 l1 x22_2).f0) ((rd_T38 l1 x22_2).f1)) = some r:=by rw [if_pos rfl] at H;exact H
                     clear H
                     have H:=H1
                     clear H1
                     have H':=zM H
                     clear H
                     have p199:0 ≤ (x41_4:Int):=of_decide_eq_true (by first|(with_reducible assumption)|assumption)
                     have q199:x41_4 < (y195.length:Int):=of_decide_eq_true (by first|(with_reducible assumption)|assumption)
                     obtain ⟨ad199,e199,hx199_0,hx199_1⟩:=at_T38 HR198.out x41_4 p199 q199
                     obtain rfl:ad191 = ad199:=(by injection e199)
                     replace hx199_0:=(HB.out.cell (World.block_lt_of_cell? w _ hx199_0)).trans hx199_0
                     replace hx199_1:=(HB.out.cell (World.block_lt_of_cell? w _ hx199_1)).trans hx199_1
                     replace p199:=eq_true p199
                     replace q199:=eq_true q199
                     (try (have q199e:=of_eq_true q199;rw [List.length_take] at q199e;replace q199e:=Int.lt_of_lt_of_le q199e (Int.ofNat_le.mpr (Nat.min_le_left _ _));rw [Int.ofNat_toNat] at q199e;have q199g:=eq_false (Int.not_le.mpr q199e);replace q199e:=eq_true q199e))
                     go_wp2_with (first|((with_reducible refine gate_dst (N:=10) rfl ?_);(try (refine gate_guard (by rfl) ?_;dsimp only));refine box_event ?hg (N:=10) ?hd (cs:=#[.int .i64 0,.int .i64 0]) (t:=38) ?hr ?_;(case hd=>rfl);(case hg=>rfl);(case hr=>first|(go_simp;done)|(go_simp;rfl));intro gb200 hg w39 hbox hb;have n0_:=zM (blk_below (g:=gb188) (o:=.cells #[.int .i64 a0_0,.int .i64 a0_1] 27 (0,0)) (by (with_reducible repeat (first|refine bA ?_ _|refine bB ?_|refine bC ?_ _));exact BK188.out) hb);have n1_:=zM (blk_below (g:=gb192) (o:=.cells #[.int .i64 ((rd_T38 l1 x22_2).f0),.int .i64 ((rd_T38 l1 x22_2).f1)] 38 (0,0)) (by (with_reducible repeat (first|refine bA ?_ _|refine bB ?_|refine bC ?_ _));exact BK192.out) hb);have n2_:=zM (bG (by repeat (first|(with_reducible first|exact HB.out|apply bE|apply bD|apply bF|refine below_set ?_ GE188.out|refine below_set ?_ GE192.out)|exact HB.out)) hb);have n3_:=zM (hbox);have n4_:=zM ((by rw [hg];exact (below_size (by repeat (first|(with_reducible first|exact HB.out|apply bE|apply bD|apply bF|refine below_set ?_ GE188.out|refine below_set ?_ GE192.out)|exact HB.out))):w.heap.size ≤ gb200));have n5_:=zM ((by rw [hg];exact (below_size (by repeat (first|(with_reducible first|exact HB.out|apply bE|apply bD|apply bF|refine below_set ?_ GE188.out|refine below_set ?_ GE192.out)|exact HB.out))):w.heap.size ≤ gb200));have n6_:=zM ((by rw [hg];exact Nat.ne_of_lt (blk_lt (g:=gb188) (o:=.cells #[.int .i64 a0_0,.int .i64 a0_1] 27 (0,0)) (by (with_reducible repeat (first|refine bA ?_ _|refine bB ?_|refine bC ?_ _));exact BK188.out)):gb188 ≠ gb200));have n7_:=zM ((by rw [hg];exact Nat.ne_of_gt (blk_lt (g:=gb188) (o:=.cells #[.int .i64 a0_0,.int .i64 a0_1] 27 (0,0)) (by (with_reducible repeat (first|refine bA ?_ _|refine bB ?_|refine bC ?_ _));exact BK188.out)):gb200 ≠ gb188));have n8_:=zM ((by rw [hg];exact Nat.ne_of_lt (blk_lt (g:=gb192) (o:=.cells #[.int .i64 ((rd_T38 l1 x22_2).f0),.int .i64 ((rd_T38 l1 x22_2).f1)] 38 (0,0)) (by (with_reducible repeat (first|refine bA ?_ _|refine bB ?_|refine bC ?_ _));exact BK192.out)):gb192 ≠ gb200));have n9_:=zM ((by rw [hg];exact Nat.ne_of_gt (blk_lt (g:=gb192) (o:=.cells #[.int .i64 ((rd_T38 l1 x22_2).f0),.int .i64 ((rd_T38 l1 x22_2).f1)] 38 (0,0)) (by (with_reducible repeat (first|refine bA ?_ _|refine bB ?_|refine bC ?_ _));exact BK192.out)):gb200 ≠ gb192));clear BK188;clear BK192;clear HB;have BK188:=n0_;have BK192:=n1_;have HB:=n2_;have BK200:=n3_;have GW200:=n4_;have GE200:=n5_;have NB188_200:=n6_;have NB200_188:=n7_;have NB192_200:=n8_;have NB200_192:=n9_;clear n0_ n1_ n2_ n3_ n4_ n5_ n6_ n7_ n8_ n9_;clear hb hbox hg;have hnb40:=NB200_188.out;have hnc40:=NB188_200.out;have hnb41:=NB200_192.out;have hnc41:=NB192_200.out;have hcz42_0:w39.cell? ⟨gb200,0,none⟩ = some (.int .i64 0):=(blk_cell BK200.out 0).trans rfl;have hcz42_1:w39.cell? ⟨gb200,1,none⟩ = some (.int .i64 0):=(blk_cell BK200.out 1).trans rfl;have hfz42_0:=blk_frozen BK200.out 0;have hfz42_1:=blk_frozen BK200.out 1)|((with_reducible refine gate_tmpcall (t:=46) rfl ?_);refine goesT_ (some 49) rfl rfl Try.func46 (by kernel_rfl) rfl #[.int .i64 x41_4,.int .i64 x22_2] rfl (by (try simp only [List.map_toArray,List.map_cons,List.map_nil]);first|done|rfl|(simp only [List.length_drop,List.length_take];rfl)) ?_;(with_reducible refine (impl_MarksOk_1.calls x41_4 x22_2 true _ A35.out).mono ?_);rintro e w' ⟨rfl,⟨nd,rfl⟩⟩;refine ⟨_,rfl,?_⟩;have hnb43:=NB188_192.out;have hnc43:=NB192_188.out;have hcz44_0:w39.cell? ⟨gb188,0,none⟩ = some (.int .i64 a0_0):=(blk_cell BK188.out 0).trans rfl;have hcz44_1:w39.cell? ⟨gb188,1,none⟩ = some (.int .i64 a0_1):=(blk_cell BK188.out 1).trans rfl;have hfz44_0:=blk_frozen BK188.out 0;have hfz44_1:=blk_frozen BK188.out 1;have hcz45_0:w39.cell? ⟨gb192,0,none⟩ = some (.int .i64 ((rd_T38 l1 x22_2).f0)):=(blk_cell BK192.out 0).trans rfl;have hcz45_1:w39.cell? ⟨gb192,1,none⟩ = some (.int .i64 ((rd_T38 l1 x22_2).f1)):=(blk_cell BK192.out 1).trans rfl;have hfz45_0:=blk_frozen BK192.out 0;have hfz45_1:=blk_frozen BK192.out 1)|(go_at_call 81;(with_reducible refine (impl_MayCount.calls a0_0 a0_1 (wrap64 (((rd_T38 l1 x22_2).f0) - ((rd_T38 y195 x41_4).f0))) (wrap64 (((rd_T38 l1 x22_2).f1) - ((rd_T38 y195 x41_4).f1))) true _ A37.out).mono ?_);rintro e w46 ⟨rfl,hb⟩;have n0_:=zM (blk_below (g:=gb188) (o:=.cells #[.int .i64 a0_0,.int .i64 a0_1] 27 (0,0)) (by (with_reducible repeat (first|refine bA ?_ _|refine bB ?_|refine bC ?_ _));refine blk_far ?_ NB188_200.out _;(with_reducible repeat (first|refine bA ?_ _|refine bB ?_|refine bC ?_ _));refine blk_far ?_ NB188_200.out _;(with_reducible repeat (first|refine bA ?_ _|refine bB ?_|refine bC ?_ _));exact BK188.out) hb);have n1_:=zM (blk_below (g:=gb192) (o:=.cells #[.int .i64 ((rd_T38 l1 x22_2).f0),.int .i64 ((rd_T38 l1 x22_2).f1)] 38 (0,0)) (by (with_reducible repeat (first|refine bA ?_ _|refine bB ?_|refine bC ?_ _));refine blk_far ?_ NB192_200.out _;(with_reducible repeat (first|refine bA ?_ _|refine bB ?_|refine bC ?_ _));refine blk_far ?_ NB192_200.out _;(with_reducible repeat (first|refine bA ?_ _|refine bB ?_|refine bC ?_ _));exact BK192.out) hb);have n2_:=zM (blk_below (g:=gb200) (o:=.cells #[.int .i64 ((rd_T38 y195 x41_4).f0),.int .i64 ((rd_T38 y195 x41_4).f1)] 38 (0,0)) (by (with_reducible repeat (first|refine bA ?_ _|refine bB ?_|refine bC ?_ _));refine bH (cs:=#[.int .i64 ((rd_T38 y195 x41_4).f0),.int .i64 0]) ?_ 1 _ rfl;(with_reducible repeat (first|refine bA ?_ _|refine bB ?_|refine bC ?_ _));refine bH (cs:=#[.int .i64 0,.int .i64 0]) ?_ 0 _ rfl;(with_reducible repeat (first|refine bA ?_ _|refine bB ?_|refine bC ?_ _));exact BK200.out) hb);have n3_:=zM (bG (by repeat (first|(with_reducible first|exact HB.out|apply bE|apply bD|apply bF|refine below_set ?_ GE188.out|refine below_set ?_ GE192.out|refine below_set ?_ GE200.out)|exact HB.out)) hb);clear BK188;clear BK192;clear BK200;clear HB;have BK188:=n0_;have BK192:=n1_;have BK200:=n2_;have HB:=n3_;clear n0_ n1_ n2_ n3_;(try clear hb);(try clear hk);(try clear hi)))
                     go_roundg k4
                     case measure=>have:=HJ3.out;have:=HK2.out;have:=HJ16.out;have:=HK4.out;omega
                     case rel=>exact ⟨(wrap64 (x41_4 + 1)),(by first|rfl|(simp;done)|(simp [*];done)),H',⟨by have:=HJ3.out;have:=HK2.out;have:=HJ16.out;have:=HK4.out;omega⟩,⟨by (with_reducible repeat (first|refine bA ?_ _|refine bB ?_|refine bC ?_ _));exact BK188.out⟩,⟨by (with_reducible repeat (first|refine bA ?_ _|refine bB ?_|refine bC ?_ _));exact BK192.out⟩,⟨by repeat (first|(with_reducible first|exact HB.out|apply bE|apply bD|apply bF|refine below_set ?_ GE188.out|refine below_set ?_ GE192.out|refine below_set ?_ GE200.out)|exact HB.out)⟩⟩
                    ·replace c38:=Bool.eq_false_iff.mpr c38
                     subst c38
                     have H1:(some false) = some r:=by rw [if_neg (show ¬ (false = true) by decide)] at H;exact H
                     clear H
                     have H:=H1
                     clear H1
                     obtain rfl:=Option.some.inj H
                     simp only [zI,zJ] at H
                     obtain ⟨rfl⟩:=H
                     have p199:0 ≤ (x41_4:Int):=of_decide_eq_true (by first|(with_reducible assumption)|assumption)
                     have q199:x41_4 < (y195.length:Int):=of_decide_eq_true (by first|(with_reducible assumption)|assumption)
                     obtain ⟨ad199,e199,hx199_0,hx199_1⟩:=at_T38 HR198.out x41_4 p199 q199
                     obtain rfl:ad191 = ad199:=(by injection e199)
                     replace hx199_0:=(HB.out.cell (World.block_lt_of_cell? w _ hx199_0)).trans hx199_0
                     replace hx199_1:=(HB.out.cell (World.block_lt_of_cell? w _ hx199_1)).trans hx199_1
                     replace p199:=eq_true p199
                     replace q199:=eq_true q199
                     (try (have q199e:=of_eq_true q199;rw [List.length_take] at q199e;replace q199e:=Int.lt_of_lt_of_le q199e (Int.ofNat_le.mpr (Nat.min_le_left _ _));rw [Int.ofNat_toNat] at q199e;have q199g:=eq_false (Int.not_le.mpr q199e);replace q199e:=eq_true q199e))
                     go_wp2_with (first|((with_reducible refine gate_dst (N:=10) rfl ?_);(try (refine gate_guard (by rfl) ?_;dsimp only));refine box_event ?hg (N:=10) ?hd (cs:=#[.int .i64 0,.int .i64 0]) (t:=38) ?hr ?_;(case hd=>rfl);(case hg=>rfl);(case hr=>first|(go_simp;done)|(go_simp;rfl));intro gb200 hg w47 hbox hb;have n0_:=zM (blk_below (g:=gb188) (o:=.cells #[.int .i64 a0_0,.int .i64 a0_1] 27 (0,0)) (by (with_reducible repeat (first|refine bA ?_ _|refine bB ?_|refine bC ?_ _));exact BK188.out) hb);have n1_:=zM (blk_below (g:=gb192) (o:=.cells #[.int .i64 ((rd_T38 l1 x22_2).f0),.int .i64 ((rd_T38 l1 x22_2).f1)] 38 (0,0)) (by (with_reducible repeat (first|refine bA ?_ _|refine bB ?_|refine bC ?_ _));exact BK192.out) hb);have n2_:=zM (bG (by repeat (first|(with_reducible first|exact HB.out|apply bE|apply bD|apply bF|refine below_set ?_ GE188.out|refine below_set ?_ GE192.out)|exact HB.out)) hb);have n3_:=zM (hbox);have n4_:=zM ((by rw [hg];exact (below_size (by repeat (first|(with_reducible first|exact HB.out|apply bE|apply bD|apply bF|refine below_set ?_ GE188.out|refine below_set ?_ GE192.out)|exact HB.out))):w.heap.size ≤ gb200));have n5_:=zM ((by rw [hg];exact (below_size (by repeat (first|(with_reducible first|exact HB.out|apply bE|apply bD|apply bF|refine below_set ?_ GE188.out|refine below_set ?_ GE192.out)|exact HB.out))):w.heap.size ≤ gb200));have n6_:=zM ((by rw [hg];exact Nat.ne_of_lt (blk_lt (g:=gb188) (o:=.cells #[.int .i64 a0_0,.int .i64 a0_1] 27 (0,0)) (by (with_reducible repeat (first|refine bA ?_ _|refine bB ?_|refine bC ?_ _));exact BK188.out)):gb188 ≠ gb200));have n7_:=zM ((by rw [hg];exact Nat.ne_of_gt (blk_lt (g:=gb188) (o:=.cells #[.int .i64 a0_0,.int .i64 a0_1] 27 (0,0)) (by (with_reducible repeat (first|refine bA ?_ _|refine bB ?_|refine bC ?_ _));exact BK188.out)):gb200 ≠ gb188));have n8_:=zM ((by rw [hg];exact Nat.ne_of_lt (blk_lt (g:=gb192) (o:=.cells #[.int .i64 ((rd_T38 l1 x22_2).f0),.int .i64 ((rd_T38 l1 x22_2).f1)] 38 (0,0)) (by (with_reducible repeat (first|refine bA ?_ _|refine bB ?_|refine bC ?_ _));exact BK192.out)):gb192 ≠ gb200));have n9_:=zM ((by rw [hg];exact Nat.ne_of_gt (blk_lt (g:=gb192) (o:=.cells #[.int .i64 ((rd_T38 l1 x22_2).f0),.int .i64 ((rd_T38 l1 x22_2).f1)] 38 (0,0)) (by (with_reducible repeat (first|refine bA ?_ _|refine bB ?_|refine bC ?_ _));exact BK192.out)):gb200 ≠ gb192));clear BK188;clear BK192;clear HB;have BK188:=n0_;have BK192:=n1_;have HB:=n2_;have BK200:=n3_;have GW200:=n4_;have GE200:=n5_;have NB188_200:=n6_;have NB200_188:=n7_;have NB192_200:=n8_;have NB200_192:=n9_;clear n0_ n1_ n2_ n3_ n4_ n5_ n6_ n7_ n8_ n9_;clear hb hbox hg;have hnb48:=NB200_188.out;have hnc48:=NB188_200.out;have hnb49:=NB200_192.out;have hnc49:=NB192_200.out;have hcz50_0:w47.cell? ⟨gb200,0,none⟩ = some (.int .i64 0):=(blk_cell BK200.out 0).trans rfl;have hcz50_1:w47.cell? ⟨gb200,1,none⟩ = some (.int .i64 0):=(blk_cell BK200.out 1).trans rfl;have hfz50_0:=blk_frozen BK200.out 0;have hfz50_1:=blk_frozen BK200.out 1)|((with_reducible refine gate_tmpcall (t:=46) rfl ?_);refine goesT_ (some 49) rfl rfl Try.func46 (by kernel_rfl) rfl #[.int .i64 x41_4,.int .i64 x22_2] rfl (by (try simp only [List.map_toArray,List.map_cons,List.map_nil]);first|done|rfl|(simp only [List.length_drop,List.length_take];rfl)) ?_;(with_reducible refine (impl_MarksOk_1.calls x41_4 x22_2 true _ A35.out).mono ?_);rintro e w' ⟨rfl,⟨nd,rfl⟩⟩;refine ⟨_,rfl,?_⟩;have hnb51:=NB188_192.out;have hnc51:=NB192_188.out;have hcz52_0:w47.cell? ⟨gb188,0,none⟩ = some (.int .i64 a0_0):=(blk_cell BK188.out 0).trans rfl;have hcz52_1:w47.cell? ⟨gb188,1,none⟩ = some (.int .i64 a0_1):=(blk_cell BK188.out 1).trans rfl;have hfz52_0:=blk_frozen BK188.out 0;have hfz52_1:=blk_frozen BK188.out 1;have hcz53_0:w47.cell? ⟨gb192,0,none⟩ = some (.int .i64 ((rd_T38 l1 x22_2).f0)):=(blk_cell BK192.out 0).trans rfl;have hcz53_1:w47.cell? ⟨gb192,1,none⟩ = some (.int .i64 ((rd_T38 l1 x22_2).f1)):=(blk_cell BK192.out 1).trans rfl;have hfz53_0:=blk_frozen BK192.out 0;have hfz53_1:=blk_frozen BK192.out 1)|(go_at_call 81;(with_reducible refine (impl_MayCount.calls a0_0 a0_1 (wrap64 (((rd_T38 l1 x22_2).f0) - ((rd_T38 y195 x41_4).f0))) (wrap64 (((rd_T38 l1 x22_2).f1) - ((rd_T38 y195 x41_4).f1))) false _ A37.out).mono ?_);rintro e w54 ⟨rfl,hb⟩;have n0_:=zM (blk_below (g:=gb188) (o:=.cells #[.int .i64 a0_0,.int .i64 a0_1] 27 (0,0)) (by (with_reducible repeat (first|refine bA ?_ _|refine bB ?_|refine bC ?_ _));refine blk_far ?_ NB188_200.out _;(with_reducible repeat (first|refine bA ?_ _|refine bB ?_|refine bC ?_ _));refine blk_far ?_ NB188_200.out _;(with_reducible repeat (first|refine bA ?_ _|refine bB ?_|refine bC ?_ _));exact BK188.out) hb);have n1_:=zM (blk_below (g:=gb192) (o:=.cells #[.int .i64 ((rd_T38 l1 x22_2).f0),.int .i64 ((rd_T38 l1 x22_2).f1)] 38 (0,0)) (by (with_reducible repeat (first|refine bA ?_ _|refine bB ?_|refine bC ?_ _));refine blk_far ?_ NB192_200.out _;(with_reducible repeat (first|refine bA ?_ _|refine bB ?_|refine bC ?_ _));refine blk_far ?_ NB192_200.out _;(with_reducible repeat (first|refine bA ?_ _|refine bB ?_|refine bC ?_ _));exact BK192.out) hb);have n2_:=zM (blk_below (g:=gb200) (o:=.cells #[.int .i64 ((rd_T38 y195 x41_4).f0),.int .i64 ((rd_T38 y195 x41_4).f1)] 38 (0,0)) (by (with_reducible repeat (first|refine bA ?_ _|refine bB ?_|refine bC ?_ _));refine bH (cs:=#[.int .i64 ((rd_T38 y195 x41_4).f0),.int .i64 0]) ?_ 1 _ rfl;(with_reducible repeat (first|refine bA ?_ _|refine bB ?_|refine bC ?_ _));refine bH (cs:=#[.int .i64 0,.int .i64 0]) ?_ 0 _ rfl;(with_reducible repeat (first|refine bA ?_ _|refine bB ?_|refine bC ?_ _));exact BK200.out) hb);have n3_:=zM (bG (by repeat (first|(with_reducible first|exact HB.out|apply bE|apply bD|apply bF|refine below_set ?_ GE188.out|refine below_set ?_ GE192.out|refine below_set ?_ GE200.out)|exact HB.out)) hb);clear BK188;clear BK192;clear BK200;clear HB;have BK188:=n0_;have BK192:=n1_;have BK200:=n2_;have HB:=n3_;clear n0_ n1_ n2_ n3_;(try clear hb);(try clear hk);(try clear hi)))
                     go_ret
                     exact ⟨by first|rfl|(simp [*,errW_none,errW_some] <;> rfl),by repeat (first|(with_reducible first|exact HB.out|apply bE|apply bD|apply bF|refine below_set ?_ GE188.out|refine below_set ?_ GE192.out|refine below_set ?_ GE200.out)|exact HB.out)⟩
                   ·replace c36:=Bool.eq_false_iff.mpr c36
                    subst c36
                    have H1:(impl_marksOk_46.l1 k4 l1 x22_2 l1 (l1.length:Int) x22_2 y195 (y195.length:Int) (wrap64 (x41_4 + 1)) a0_0 a0_1 ((rd_T38 l1 x22_2).f0) ((rd_T38 l1 x22_2).f1)) = some r:=by rw [if_neg (show ¬ (false = true) by decide)] at H;exact H
                    clear H
                    have H:=H1
                    clear H1
                    have H':=zM H
                    clear H
                    have p199:0 ≤ (x41_4:Int):=of_decide_eq_true (by first|(with_reducible assumption)|assumption)
                    have q199:x41_4 < (y195.length:Int):=of_decide_eq_true (by first|(with_reducible assumption)|assumption)
                    obtain ⟨ad199,e199,hx199_0,hx199_1⟩:=at_T38 HR198.out x41_4 p199 q199
                    obtain rfl:ad191 = ad199:=(by injection e199)
                    replace hx199_0:=(HB.out.cell (World.block_lt_of_cell? w _ hx199_0)).trans hx199_0
                    replace hx199_1:=(HB.out.cell (World.block_lt_of_cell? w _ hx199_1)).trans hx199_1
                    replace p199:=eq_true p199
                    replace q199:=eq_true q199
                    (try (have q199e:=of_eq_true q199;rw [List.length_take] at q199e;replace q199e:=Int.lt_of_lt_of_le q199e (Int.ofNat_le.mpr (Nat.min_le_left _ _));rw [Int.ofNat_toNat] at q199e;have q199g:=eq_false (Int.not_le.mpr q199e);replace q199e:=eq_true q199e))
                    go_wp2_with (first|((with_reducible refine gate_dst (N:=10) rfl ?_);(try (refine gate_guard (by rfl) ?_;dsimp only));refine box_event ?hg (N:=10) ?hd (cs:=#[.int .i64 0,.int .i64 0]) (t:=38) ?hr ?_;(case hd=>rfl);(case hg=>rfl);(case hr=>first|(go_simp;done)|(go_simp;rfl));intro gb200 hg w55 hbox hb;have n0_:=zM (blk_below (g:=gb188) (o:=.cells #[.int .i64 a0_0,.int .i64 a0_1] 27 (0,0)) (by (with_reducible repeat (first|refine bA ?_ _|refine bB ?_|refine bC ?_ _));exact BK188.out) hb);have n1_:=zM (blk_below (g:=gb192) (o:=.cells #[.int .i64 ((rd_T38 l1 x22_2).f0),.int .i64 ((rd_T38 l1 x22_2).f1)] 38 (0,0)) (by (with_reducible repeat (first|refine bA ?_ _|refine bB ?_|refine bC ?_ _));exact BK192.out) hb);have n2_:=zM (bG (by repeat (first|(with_reducible first|exact HB.out|apply bE|apply bD|apply bF|refine below_set ?_ GE188.out|refine below_set ?_ GE192.out)|exact HB.out)) hb);have n3_:=zM (hbox);have n4_:=zM ((by rw [hg];exact (below_size (by repeat (first|(with_reducible first|exact HB.out|apply bE|apply bD|apply bF|refine below_set ?_ GE188.out|refine below_set ?_ GE192.out)|exact HB.out))):w.heap.size ≤ gb200));have n5_:=zM ((by rw [hg];exact (below_size (by repeat (first|(with_reducible first|exact HB.out|apply bE|apply bD|apply bF|refine below_set ?_ GE188.out|refine below_set ?_ GE192.out)|exact HB.out))):w.heap.size ≤ gb200));have n6_:=zM ((by rw [hg];exact Nat.ne_of_lt (blk_lt (g:=gb188) (o:=.cells #[.int .i64 a0_0,.int .i64 a0_1] 27 (0,0)) (by (with_reducible repeat (first|refine bA ?_ _|refine bB ?_|refine bC ?_ _));exact BK188.out)):gb188 ≠ gb200));have n7_:=zM ((by rw [hg];exact Nat.ne_of_gt (blk_lt (g:=gb188) (o:=.cells #[.int .i64 a0_0,.int .i64 a0_1] 27 (0,0)) (by (with_reducible repeat (first|refine bA ?_ _|refine bB ?_|refine bC ?_ _));exact BK188.out)):gb200 ≠ gb188));have n8_:=zM ((by rw [hg];exact Nat.ne_of_lt (blk_lt (g:=gb192) (o:=.cells #[.int .i64 ((rd_T38 l1 x22_2).f0),.int .i64 ((rd_T38 l1 x22_2).f1)] 38 (0,0)) (by (with_reducible repeat (first|refine bA ?_ _|refine bB ?_|refine bC ?_ _));exact BK192.out)):gb192 ≠ gb200));have n9_:=zM ((by rw [hg];exact Nat.ne_of_gt (blk_lt (g:=gb192) (o:=.cells #[.int .i64 ((rd_T38 l1 x22_2).f0),.int .i64 ((rd_T38 l1 x22_2).f1)] 38 (0,0)) (by (with_reducible repeat (first|refine bA ?_ _|refine bB ?_|refine bC ?_ _));exact BK192.out)):gb200 ≠ gb192));clear BK188;clear BK192;clear HB;have BK188:=n0_;have BK192:=n1_;have HB:=n2_;have BK200:=n3_;have GW200:=n4_;have GE200:=n5_;have NB188_200:=n6_;have NB200_188:=n7_;have NB192_200:=n8_;have NB200_192:=n9_;clear n0_ n1_ n2_ n3_ n4_ n5_ n6_ n7_ n8_ n9_;clear hb hbox hg;have hnb56:=NB200_188.out;have hnc56:=NB188_200.out;have hnb57:=NB200_192.out;have hnc57:=NB192_200.out;have hcz58_0:w55.cell? ⟨gb200,0,none⟩ = some (.int .i64 0):=(blk_cell BK200.out 0).trans rfl;have hcz58_1:w55.cell? ⟨gb200,1,none⟩ = some (.int .i64 0):=(blk_cell BK200.out 1).trans rfl;have hfz58_0:=blk_frozen BK200.out 0;have hfz58_1:=blk_frozen BK200.out 1)|((with_reducible refine gate_tmpcall (t:=46) rfl ?_);refine goesT_ (some 49) rfl rfl Try.func46 (by kernel_rfl) rfl #[.int .i64 x41_4,.int .i64 x22_2] rfl (by (try simp only [List.map_toArray,List.map_cons,List.map_nil]);first|done|rfl|(simp only [List.length_drop,List.length_take];rfl)) ?_;(with_reducible refine (impl_MarksOk_1.calls x41_4 x22_2 false _ A35.out).mono ?_);rintro e w' ⟨rfl,⟨nd,rfl⟩⟩;refine ⟨_,rfl,?_⟩))
                    go_roundg k4
                    case measure=>have:=HJ3.out;have:=HK2.out;have:=HJ16.out;have:=HK4.out;omega
                    case rel=>exact ⟨(wrap64 (x41_4 + 1)),(by first|rfl|(simp;done)|(simp [*];done)),H',⟨by have:=HJ3.out;have:=HK2.out;have:=HJ16.out;have:=HK4.out;omega⟩,⟨by (with_reducible repeat (first|refine bA ?_ _|refine bB ?_|refine bC ?_ _));refine blk_far ?_ NB188_200.out _;(with_reducible repeat (first|refine bA ?_ _|refine bB ?_|refine bC ?_ _));refine blk_far ?_ NB188_200.out _;(with_reducible repeat (first|refine bA ?_ _|refine bB ?_|refine bC ?_ _));exact BK188.out⟩,⟨by (with_reducible repeat (first|refine bA ?_ _|refine bB ?_|refine bC ?_ _));refine blk_far ?_ NB192_200.out _;(with_reducible repeat (first|refine bA ?_ _|refine bB ?_|refine bC ?_ _));refine blk_far ?_ NB192_200.out _;(with_reducible repeat (first|refine bA ?_ _|refine bB ?_|refine bC ?_ _));exact BK192.out⟩,⟨by repeat (first|(with_reducible first|exact HB.out|apply bE|apply bD|apply bF|refine below_set ?_ GE188.out|refine below_set ?_ GE192.out|refine below_set ?_ GE200.out)|exact HB.out)⟩⟩
                  ·rw [if_neg c34] at H
                   exact absurd H (by simp)
                 ·rw [if_neg c33] at H
                  exact absurd H (by simp)
                ·rw [if_neg c32] at H
                 have c32b0:decide (x41_4 < (y195.length:Int)) = false:=decide_eq_false c32
                 clear c32
                 have H':=zM H
                 clear H
                 go_wp2
                 go_roundg k4
                 case measure=>have:=HJ3.out;have:=HK2.out;have:=HJ16.out;have:=HK4.out;omega
                 case rel=>exact ⟨(wrap64 (x22_2 + 1)),(by first|rfl|(simp;done)|(simp [*];done)),H',⟨by have:=HJ3.out;have:=HK2.out;have:=HJ16.out;have:=HK4.out;omega⟩,⟨by (with_reducible repeat (first|refine bA ?_ _|refine bB ?_|refine bC ?_ _));exact BK188.out⟩,⟨by repeat (first|(with_reducible first|exact HB.out|apply bE|apply bD|apply bF|refine below_set ?_ GE188.out|refine below_set ?_ GE192.out)|exact HB.out)⟩⟩
             ·rw [if_neg c30] at H
              exact absurd H (by simp)
            ·rw [if_neg c29] at H
             exact absurd H (by simp)
        ·rw [if_neg c16] at H
         exact absurd H (by simp)
       ·rw [if_neg c15] at H
        exact absurd H (by simp)
      ·rw [if_neg c14] at H
       have c14b0:decide (x22_2 < (l1.length:Int)) = false:=decide_eq_false c14
       clear c14
       obtain rfl:=Option.some.inj H
       simp only [zI,zJ] at H
       obtain ⟨rfl⟩:=H
       go_wp2
       go_ret
       exact ⟨by first|rfl|(simp [*,errW_none,errW_some] <;> rfl),by repeat (first|(with_reducible first|exact HB.out|apply bE|apply bD|apply bF|refine below_set ?_ GE188.out)|exact HB.out)⟩

/-! ### impl_MarksOk: function 16 -/
def impl_MarksOk.f (k:Nat) (a0_0:Int) (a0_1:Int) (l1:List (S38)):Option (Bool):=(impl_marksOk_46.f k a0_0 a0_1 l1).bind fun t204=>(some t204)
theorem impl_MarksOk.mono:∀ a0 a1 a2 k,LeO (impl_MarksOk.f k a0 a1 a2) (impl_MarksOk.f (k + 1) a0 a1 a2):=by
 intro a0 a1 a2 k
 unfold impl_MarksOk.f
 repeat' first
   | (with_reducible exact impl_marksOk_46.mono _ _ _ _)
   | (with_reducible exact LeO.refl _)
   | (with_reducible exact LeO.none _)
   | (with_reducible refine LeO.ite ?_ ?_)
   | (with_reducible refine LeO.bind ?_ (fun _=>?_))
   | exact impl_marksOk_46.mono _ _ _ _
   | exact LeO.none _
   | refine LeO.ite ?_ ?_
   | refine LeO.bind ?_ (fun _=>?_)
theorem impl_MarksOk.calls (k:Nat) (a0_0:Int) (a0_1:Int) (A1:Option Addr) (c1:Nat) (l1:List (S38)) (r:Bool) (w:World) (hr1:Kd.C k38 w A1 l1.length l1) (hc1:l1.length ≤ c1) (h:impl_MarksOk.f k a0_0 a0_1 l1 = some r) :
  Calls Try.prog 16 #[.agg #[.int .i64 a0_0,.int .i64 a0_1],.slice A1 l1.length c1] w fun e w'=>e = .returned (.bool r) ∧ Below w.heap.size w w':=by
 have hu27:=Try.underlying27
 have HR1:=zM hr1
 have HC1:=zM hc1
 clear hr1 hc1
 have HB:=zM (Below.refl w.heap.size w)
 have H:((impl_marksOk_46.f k a0_0 a0_1 l1).bind fun t204=>(some t204)) = some r:=h
 clear h
 replace H:=zO H
 obtain ⟨t204,A30,H⟩:=H
 replace H:(some t204) = some r:=H
 have A3:=zM A30
 clear A30
 obtain rfl:=Option.some.inj H
 simp only [zI,zJ] at H
 obtain ⟨rfl⟩:=H
 go_enter Try.func16,Try.ntmps16
 go_wp2_with (first|((with_reducible refine gate_dst (N:=2) rfl ?_);refine box_event ?hg (N:=2) ?hd (cs:=#[.int .i64 a0_0,.int .i64 a0_1]) (t:=27) ?hr ?_;(case hd=>rfl);(case hg=>rfl);(case hr=>first|(go_simp;done)|(go_simp;rfl));intro gb203 hg w4 hbox hb;have n0_:=zM (bG (by repeat (first|(with_reducible first|exact HB.out|apply bE|apply bD|apply bF)|exact HB.out)) hb);have n1_:=zM (hbox);have n2_:=zM ((by rw [hg];exact (below_size (by repeat (first|(with_reducible first|exact HB.out|apply bE|apply bD|apply bF)|exact HB.out))):w.heap.size ≤ gb203));have n3_:=zM ((by rw [hg];exact (below_size (by repeat (first|(with_reducible first|exact HB.out|apply bE|apply bD|apply bF)|exact HB.out))):w.heap.size ≤ gb203));clear HB;have HB:=n0_;have BK203:=n1_;have GW203:=n2_;have GE203:=n3_;clear n0_ n1_ n2_ n3_;clear hb hbox hg;have hcz5_0:w4.cell? ⟨gb203,0,none⟩ = some (.int .i64 a0_0):=(blk_cell BK203.out 0).trans rfl;have hcz5_1:w4.cell? ⟨gb203,1,none⟩ = some (.int .i64 a0_1):=(blk_cell BK203.out 1).trans rfl;have hfz5_0:=blk_frozen BK203.out 0;have hfz5_1:=blk_frozen BK203.out 1)|((with_reducible refine gate_callee (f:=45) rfl ?_);refine goesL_ (some 7) rfl rfl Try.func45 (by kernel_rfl) rfl #[.agg #[.int .i64 a0_0,.int .i64 a0_1],.slice A1 l1.length c1,.func (.func 46) #[] #[]] rfl (by (try simp only [List.map_toArray,List.map_cons,List.map_nil]);first|done|rfl|(simp only [List.length_drop,List.length_take];rfl)) ?_;(with_reducible refine (impl_marksOk_46.calls k a0_0 a0_1 _ _ l1  t204 _ ?side1 ?side2 A3.out).mono ?_);(case side1=>repeat (first|exact (Kd.C_below HR1.out HB.out)|(with_reducible refine Kd.C_alloc ?_ _)|(with_reducible refine Kd.C_drewN ?_ _)|(with_reducible refine Kd.C_drew ?_)));(case side2=>exact HC1.out);rintro e w6 ⟨rfl,hb⟩;refine ⟨_,rfl,?_⟩;have n0_:=zM (blk_below (g:=gb203) (o:=.cells #[.int .i64 a0_0,.int .i64 a0_1] 27 (0,0)) (by (with_reducible repeat (first|refine bA ?_ _|refine bB ?_|refine bC ?_ _));exact BK203.out) hb);have n1_:=zM (bG (by repeat (first|(with_reducible first|exact HB.out|apply bE|apply bD|apply bF|refine below_set ?_ GE203.out)|exact HB.out)) hb);clear BK203;clear HB;have BK203:=n0_;have HB:=n1_;clear n0_ n1_;(try clear hb);(try clear hk);(try clear hi)))
 go_ret
 exact ⟨by first|rfl|(simp [*,errW_none,errW_some] <;> rfl),by repeat (first|(with_reducible first|exact HB.out|apply bE|apply bD|apply bF|refine below_set ?_ GE203.out)|exact HB.out)⟩

/-! ### impl_timeOf: function 60 -/
def impl_timeOf.f (a0_0:Int) (a0_1:Int):Option (Int):=some a0_0
theorem impl_timeOf.calls (a0_0:Int) (a0_1:Int) (r:Int) (w:World) (h:impl_timeOf.f a0_0 a0_1 = some r) :
  Calls Try.prog 60 #[.agg #[.int .i64 a0_0,.int .i64 a0_1]] w fun e w'=>e = .returned (.int .i64 r) ∧ Below w.heap.size w w':=by
 have hu38:=Try.underlying38
 have HB:=zM (Below.refl w.heap.size w)
 have H:(some a0_0) = some r:=h
 clear h
 obtain rfl:=Option.some.inj H
 simp only [zI,zJ] at H
 obtain ⟨rfl⟩:=H
 go_enter Try.func60,Try.ntmps60
 go_wp2_with (first|((with_reducible refine gate_dst (N:=1) rfl ?_);refine box_event ?hg (N:=1) ?hd (cs:=#[.int .i64 a0_0,.int .i64 a0_1]) (t:=38) ?hr ?_;(case hd=>rfl);(case hg=>rfl);(case hr=>first|(go_simp;done)|(go_simp;rfl));intro gb205 hg w2 hbox hb;have n0_:=zM (bG (by repeat (first|(with_reducible first|exact HB.out|apply bE|apply bD|apply bF)|exact HB.out)) hb);have n1_:=zM (hbox);have n2_:=zM ((by rw [hg];exact (below_size (by repeat (first|(with_reducible first|exact HB.out|apply bE|apply bD|apply bF)|exact HB.out))):w.heap.size ≤ gb205));have n3_:=zM ((by rw [hg];exact (below_size (by repeat (first|(with_reducible first|exact HB.out|apply bE|apply bD|apply bF)|exact HB.out))):w.heap.size ≤ gb205));clear HB;have HB:=n0_;have BK205:=n1_;have GW205:=n2_;have GE205:=n3_;clear n0_ n1_ n2_ n3_;clear hb hbox hg;have hcz3_0:w2.cell? ⟨gb205,0,none⟩ = some (.int .i64 a0_0):=(blk_cell BK205.out 0).trans rfl;have hcz3_1:w2.cell? ⟨gb205,1,none⟩ = some (.int .i64 a0_1):=(blk_cell BK205.out 1).trans rfl;have hfz3_0:=blk_frozen BK205.out 0;have hfz3_1:=blk_frozen BK205.out 1))
 go_ret
 exact ⟨by first|rfl|(simp [*,errW_none,errW_some] <;> rfl),by repeat (first|(with_reducible first|exact HB.out|apply bE|apply bD|apply bF|refine below_set ?_ GE205.out)|exact HB.out)⟩

end Go.Proofs.Ytlikojcfjamgpaa.XFnExactCountWhen
