-- Written by a program of this claim's session (wip/xprint.py), out of the translation.
import Derived.Test.YtlikojcfjamgpaaTECountWhenXFnExactCountWhenx0
import Derived.Test.YtlikojcfjamgpaaTECountWhenXFnExactCountWhenx5
namespace Go.Proofs.Ytlikojcfjamgpaa.XFnExactCountWhen
open Go.RowKit Go.Proofs.YtlikojcfjamgpaaW.PrintWords Go.Proofs.YtlikojcfjamgpaaW.PrintLast Go.Proofs.YtlikojcfjamgpaaW.PrintMore
open Go.Proofs.YtlikojcfjamgpaaW.PrintWords renaming blk_drewN → bA, blk_drew → bB, blk_alloc → bC, pw_below_drewN → bD, below_alloc → bE, below_drew1 → bF, Aside0.mk → zM, below_step → bG, blk_put → bH
open List renaming setIfInBounds_toArray → zS, set_cons_zero → z0, set_cons_succ → z1
attribute [local go_sem] max2_int min2_int max_two min_two max_three min_three max_four min_four
set_option linter.unusedVariables false
set_option linter.unusedSimpArgs false
set_option maxHeartbeats 8000000
set_option maxRecDepth 100000

/-! ### impl_countOf: function 61 -/
def impl_countOf.f (a0_0:Int) (a0_1:Int):Option (Int):=some a0_1
theorem impl_countOf.calls (a0_0:Int) (a0_1:Int) (r:Int) (w:World) (h:impl_countOf.f a0_0 a0_1 = some r) :
  Calls Try.prog 61 #[.agg #[.int .i64 a0_0,.int .i64 a0_1]] w fun e w'=>e = .returned (.int .i64 r) ∧ Below w.heap.size w w':=by
 have hu38:=Try.underlying38
 have HB:=zM (Below.refl w.heap.size w)
 have H:(some a0_1) = some r:=h
 clear h
 obtain rfl:=Option.some.inj H
 simp only [zI,zJ] at H
 obtain ⟨rfl⟩:=H
 go_enter Try.func61,Try.ntmps61
 go_wp2_with (first|((with_reducible refine gate_dst (N:=1) rfl ?_);refine box_event ?hg (N:=1) ?hd (cs:=#[.int .i64 a0_0,.int .i64 a0_1]) (t:=38) ?hr ?_;(case hd=>rfl);(case hg=>rfl);(case hr=>first|(go_simp;done)|(go_simp;rfl));intro gb206 hg w2 hbox hb;have n0_:=zM (bG (by repeat (first|(with_reducible first|exact HB.out|apply bE|apply bD|apply bF)|exact HB.out)) hb);have n1_:=zM (hbox);have n2_:=zM ((by rw [hg];exact (below_size (by repeat (first|(with_reducible first|exact HB.out|apply bE|apply bD|apply bF)|exact HB.out))):w.heap.size ≤ gb206));have n3_:=zM ((by rw [hg];exact (below_size (by repeat (first|(with_reducible first|exact HB.out|apply bE|apply bD|apply bF)|exact HB.out))):w.heap.size ≤ gb206));clear HB;have HB:=n0_;have BK206:=n1_;have GW206:=n2_;have GE206:=n3_;clear n0_ n1_ n2_ n3_;clear hb hbox hg;have hcz3_0:w2.cell? ⟨gb206,0,none⟩ = some (.int .i64 a0_0):=(blk_cell BK206.out 0).trans rfl;have hcz3_1:w2.cell? ⟨gb206,1,none⟩ = some (.int .i64 a0_1):=(blk_cell BK206.out 1).trans rfl;have hfz3_0:=blk_frozen BK206.out 0;have hfz3_1:=blk_frozen BK206.out 1))
 go_ret
 exact ⟨by first|rfl|(simp [*,errW_none,errW_some] <;> rfl),by repeat (first|(with_reducible first|exact HB.out|apply bE|apply bD|apply bF|refine below_set ?_ GE206.out)|exact HB.out)⟩

/-! ### impl_down: function 104 -/
def impl_down.f (a0:Int) (a1:Int):Option (Int):=if a1 = 0 then (none) else (if (Int.tmod a0 a1) < 0 then (some (wrap64 ((wrap64 (Int.tdiv a0 a1)) - 1))) else (some (wrap64 (Int.tdiv a0 a1))))
theorem impl_down.calls (a0:Int) (a1:Int) (r:Int) (w:World) (h:impl_down.f a0 a1 = some r) :
  Calls Try.prog 104 #[.int .i64 a0,.int .i64 a1] w fun e w'=>e = .returned (.int .i64 r) ∧ Drawn0 w w':=by
 have H:(if a1 = 0 then (none) else (if (Int.tmod a0 a1) < 0 then (some (wrap64 ((wrap64 (Int.tdiv a0 a1)) - 1))) else (some (wrap64 (Int.tdiv a0 a1))))) = some r:=h
 clear h
 by_cases c3:a1 = 0
 ·rw [if_pos c3] at H
  exact absurd H (by simp)
 ·rw [if_neg c3] at H
  have c3b0:(a1 == 0) = false:=beq_eq_false_iff_ne.mpr c3
  have c3b1:(a1 != 0) = true:=bne_iff_ne.mpr c3
  by_cases c4:(Int.tmod a0 a1) < 0
  ·rw [if_pos c4] at H
   have c4b0:decide ((Int.tmod a0 a1) < 0) = true:=decide_eq_true c4
   clear c4
   obtain rfl:=Option.some.inj H
   simp only [zI,zJ] at H
   obtain ⟨rfl⟩:=H
   go_enter Try.func104,Try.ntmps104
   go_wp2
   go_ret
   exact ⟨by first|rfl|(simp;done)|(simp [*];done),by repeat (first|exact Drawn0.refl _|apply Drawn0.step)⟩
  ·rw [if_neg c4] at H
   have c4b0:decide ((Int.tmod a0 a1) < 0) = false:=decide_eq_false c4
   clear c4
   obtain rfl:=Option.some.inj H
   simp only [zI,zJ] at H
   obtain ⟨rfl⟩:=H
   go_enter Try.func104,Try.ntmps104
   go_wp2
   go_ret
   exact ⟨by first|rfl|(simp;done)|(simp [*];done),by repeat (first|exact Drawn0.refl _|apply Drawn0.step)⟩

/-! ### impl_up: function 99 -/
def impl_up.f (a0:Int) (a1:Int):Option (Int):=(impl_down.f (wrap64 (-a0)) a1).bind fun t207=>(some (wrap64 (-t207)))
theorem impl_up.calls (a0:Int) (a1:Int) (r:Int) (w:World) (h:impl_up.f a0 a1 = some r) :
  Calls Try.prog 99 #[.int .i64 a0,.int .i64 a1] w fun e w'=>e = .returned (.int .i64 r) ∧ Drawn0 w w':=by
 have H:((impl_down.f (wrap64 (-a0)) a1).bind fun t207=>(some (wrap64 (-t207)))) = some r:=h
 clear h
 replace H:=zO H
 obtain ⟨t207,A30,H⟩:=H
 replace H:(some (wrap64 (-t207))) = some r:=H
 have A3:=zM A30
 clear A30
 obtain rfl:=Option.some.inj H
 simp only [zI,zJ] at H
 obtain ⟨rfl⟩:=H
 go_enter Try.func99,Try.ntmps99
 go_wp2_with (first|((with_reducible refine gate_callee (f:=104) rfl ?_);refine goesL_ (some 8) rfl rfl Try.func104 (by kernel_rfl) rfl #[.int .i64 (wrap64 (-a0)),.int .i64 a1] rfl (by (try simp only [List.map_toArray,List.map_cons,List.map_nil]);first|done|rfl) ?_;(with_reducible refine (impl_down.calls (wrap64 (-a0)) a1 t207 _ A3.out).mono ?_);rintro e w' ⟨rfl,⟨nd,rfl⟩⟩;refine ⟨_,rfl,?_⟩))
 go_ret
 exact ⟨by first|rfl|(simp;done)|(simp [*];done),by repeat (first|exact Drawn0.refl _|apply Drawn0.step)⟩

/-! ### impl_LeastCount: function 90 -/
/-- What LeastCount$1 reckons, of what it captured. -/
def impl_LeastCount_1.f (a0_0 a0_1 a1:Int):Option Int:=impl_up.f (wrap64 (a1 * (wrap64 (a0_1 - a0_0)))) a0_1
def impl_LeastCount.f (a0_0:Int) (a0_1:Int) (a1:Int):Option (Int × Bool):=(impl_DriftOk.f a0_0 a0_1).bind fun t1=>(if t1 = true then ((impl_isTime.f a1).bind fun t2=>(if t2 = true then ((impl_LeastCount_1.f a0_0 a0_1 a1).bind fun y=>(if y ≤ 1000000000000 then (some (y,true)) else (some (0,false)))) else (some (0,false)))) else (some (0,false)))
theorem impl_LeastCount_1.calls (a0_0 a0_1 a1 r:Int) (pd px:Nat) (w:World) (hx:w.cell? ⟨px,0,none⟩ = some (.int .i64 a1)) (h0:w.cell? ⟨pd,0,none⟩ = some (.int .i64 a0_0)) (h1:w.cell? ⟨pd,1,none⟩ = some (.int .i64 a0_1)) (h:impl_LeastCount_1.f a0_0 a0_1 a1 = some r) :
  Calls Try.prog 101 #[.pointer (some ⟨px,0,none⟩),.pointer (some ⟨pd,0,none⟩)] w fun e w'=>e = .returned (.int .i64 r) ∧ Drawn0 w w':=by
 have A2:=zM (show impl_up.f (wrap64 (a1 * (wrap64 (a0_1 - a0_0)))) a0_1 = some r from h)
 clear h
 go_enter Try.func101,Try.ntmps101
 go_wp2_with (first|((with_reducible refine gate_callee (f:=99) rfl ?_);refine goesL_ (some 12) rfl rfl Try.func99 (by kernel_rfl) rfl #[.int .i64 (wrap64 (a1 * (wrap64 (a0_1 - a0_0)))),.int .i64 a0_1] rfl (by (try simp only [List.map_toArray,List.map_cons,List.map_nil]);first|done|rfl) ?_;(with_reducible refine (impl_up.calls (wrap64 (a1 * (wrap64 (a0_1 - a0_0)))) a0_1 r _ A2.out).mono ?_);rintro e w' ⟨rfl,⟨nd,rfl⟩⟩;refine ⟨_,rfl,?_⟩))
 go_ret
 exact ⟨rfl,by repeat (first|exact Drawn0.refl _|apply Drawn0.step)⟩
theorem impl_LeastCount_b.calls (a0_0 a0_1 a1 r1:Int) (r2:Bool) (pd px:Nat) (w:World) (hx:w.cell? ⟨px,0,none⟩ = some (.int .i64 a1)) (h0:w.cell? ⟨pd,0,none⟩ = some (.int .i64 a0_0)) (h1:w.cell? ⟨pd,1,none⟩ = some (.int .i64 a0_1)) (h:impl_LeastCount.f a0_0 a0_1 a1 = some (r1,r2)) :
  Calls Try.prog 97 #[.agg #[.int .i64 a0_0,.int .i64 a0_1],.int .i64 a1,.func (.func 101) #[] #[.pointer (some ⟨px,0,none⟩),.pointer (some ⟨pd,0,none⟩)]] w fun e w'=>e = .returned (.tuple #[.int .i64 r1,.bool r2]) ∧ Below w.heap.size w w':=by
 have hu:=Try.underlying27
 unfold impl_LeastCount.f at h
 obtain ⟨t1,A1,h⟩:=zO h
 have A1:=zM A1
 have hx':=zM hx
 have h0':=zM h0
 have h1':=zM h1
 clear hx h0 h1
 cases t1 with
 | false =>
  have h:=h
  simp only [Bool.false_eq_true,if_false,zI,zJ] at h
  obtain ⟨rfl,rfl⟩:=h
  go_enter Try.func97,Try.ntmps97
  go_wp2_with (go_at_call 75;(with_reducible refine (impl_DriftOk.calls a0_0 a0_1 false _ A1.out).mono ?_);rintro e w1 ⟨rfl,hb⟩;have HB:=zM (bG (bE (Below.refl _ w) _) hb);clear hb)
  go_ret2
  exact ⟨by first|rfl|(simp;done)|(simp [*];done),by repeat (first|exact HB.out|apply bD)⟩
 | true =>
  rw [if_pos rfl] at h
  obtain ⟨t2,A2,h⟩:=zO h
  have A2:=zM A2
  cases t2 with
  | false =>
   simp only [Bool.false_eq_true,if_false,zI,zJ] at h
   obtain ⟨rfl,rfl⟩:=h
   go_enter Try.func97,Try.ntmps97
   go_wp2_with (first|(go_at_call 75;(with_reducible refine (impl_DriftOk.calls a0_0 a0_1 true _ A1.out).mono ?_);rintro e w1 ⟨rfl,hb⟩;have HB:=zM (bG (bE (Below.refl _ w) _) hb);clear hb)|(go_at_call 76;(with_reducible refine (impl_isTime.calls a1 false _ A2.out).mono ?_);rintro e w' ⟨rfl,⟨nd,rfl⟩⟩))
   go_ret2
   exact ⟨by first|rfl|(simp;done)|(simp [*];done),by repeat (first|exact HB.out|apply bD)⟩
  | true =>
   rw [if_pos rfl] at h
   obtain ⟨y,A3,h⟩:=zO h
   have A3:=zM A3
   by_cases c:y ≤ 1000000000000
   ·rw [if_pos c] at h
    simp only [zI,zJ] at h
    obtain ⟨rfl,rfl⟩:=h
    have cb:decide (y ≤ 1000000000000) = true:=decide_eq_true c
    clear c
    go_enter Try.func97,Try.ntmps97
    go_wp2_with (first|(go_at_call 75;(with_reducible refine (impl_DriftOk.calls a0_0 a0_1 true _ A1.out).mono ?_);rintro e w1 ⟨rfl,hb⟩;have HB:=zM (bG (bE (Below.refl _ w) _) hb);clear hb)|(go_at_call 76;(with_reducible refine (impl_isTime.calls a1 true _ A2.out).mono ?_);rintro e w' ⟨rfl,⟨nd,rfl⟩⟩)|(go_at_call 101;(with_reducible refine (impl_LeastCount_1.calls a0_0 a0_1 a1 y pd px _ ?cx ?c0 ?c1 A3.out).mono ?_);(case cx=>exact pw_cell_below (bD HB.out _) hx'.out);(case c0=>exact pw_cell_below (bD HB.out _) h0'.out);(case c1=>exact pw_cell_below (bD HB.out _) h1'.out);rintro e w' ⟨rfl,⟨nd2,rfl⟩⟩))
    go_ret2
    exact ⟨by first|rfl|(simp;done)|(simp [*];done),by repeat (first|exact HB.out|apply bD)⟩
   ·rw [if_neg c] at h
    simp only [zI,zJ] at h
    obtain ⟨rfl,rfl⟩:=h
    have cb:decide (y ≤ 1000000000000) = false:=decide_eq_false c
    clear c
    go_enter Try.func97,Try.ntmps97
    go_wp2_with (first|(go_at_call 75;(with_reducible refine (impl_DriftOk.calls a0_0 a0_1 true _ A1.out).mono ?_);rintro e w1 ⟨rfl,hb⟩;have HB:=zM (bG (bE (Below.refl _ w) _) hb);clear hb)|(go_at_call 76;(with_reducible refine (impl_isTime.calls a1 true _ A2.out).mono ?_);rintro e w' ⟨rfl,⟨nd,rfl⟩⟩)|(go_at_call 101;(with_reducible refine (impl_LeastCount_1.calls a0_0 a0_1 a1 y pd px _ ?cx ?c0 ?c1 A3.out).mono ?_);(case cx=>exact pw_cell_below (bD HB.out _) hx'.out);(case c0=>exact pw_cell_below (bD HB.out _) h0'.out);(case c1=>exact pw_cell_below (bD HB.out _) h1'.out);rintro e w' ⟨rfl,⟨nd2,rfl⟩⟩))
    go_ret2
    exact ⟨by first|rfl|(simp;done)|(simp [*];done),by repeat (first|exact HB.out|apply bD)⟩
theorem impl_LeastCount.calls (a0_0:Int) (a0_1:Int) (a1:Int) (r1:Int) (r2:Bool) (w:World) (h:impl_LeastCount.f a0_0 a0_1 a1 = some (r1,r2)) :
  Calls Try.prog 90 #[.agg #[.int .i64 a0_0,.int .i64 a0_1],.int .i64 a1] w fun e w'=>e = .returned (.tuple #[.int .i64 r1,.bool r2]) ∧ Below w.heap.size w w':=by
 have hu:=Try.underlying27
 have A1:=zM h
 clear h
 have hmf:=@run_makeFunc_ Try.prog
 go_enter Try.func90,Try.ntmps90
 go_wp2_with (go_at_call 97;(with_reducible refine (impl_LeastCount_b.calls a0_0 a0_1 a1 r1 r2 w.heap.size (w.heap.size + 1) _ ?cx ?c0 ?c1 A1.out).mono ?_);(case cx=>go_simp);(case c0=>go_simp);(case c1=>go_simp);rintro e w1 ⟨rfl,hb⟩;have HB:=zM (bG (bE (bE (Below.refl _ w) _) _) hb);clear hb)
 go_ret2
 exact ⟨rfl,HB.out⟩

/-! ### impl_MostCount: function 91 -/
/-- What MostCount$1 reckons, of what it captured. -/
def impl_MostCount_1.f (a0_0 a0_1 a1:Int):Option Int:=(if a0_1 = 0 then none else some (wrap64 (Int.tdiv (wrap64 (a1 * (wrap64 (a0_1 + a0_0)))) a0_1)))
def impl_MostCount.f (a0_0:Int) (a0_1:Int) (a1:Int):Option (Int × Bool):=(impl_DriftOk.f a0_0 a0_1).bind fun t1=>(if t1 = true then ((impl_isTime.f a1).bind fun t2=>(if t2 = true then ((impl_MostCount_1.f a0_0 a0_1 a1).bind fun y=>(if y ≤ 1000000000000 then (some (y,true)) else (some (0,false)))) else (some (0,false)))) else (some (0,false)))
theorem impl_MostCount_1.calls (a0_0 a0_1 a1 r:Int) (pd px:Nat) (w:World) (hx:w.cell? ⟨px,0,none⟩ = some (.int .i64 a1)) (h0:w.cell? ⟨pd,0,none⟩ = some (.int .i64 a0_0)) (h1:w.cell? ⟨pd,1,none⟩ = some (.int .i64 a0_1)) (h:impl_MostCount_1.f a0_0 a0_1 a1 = some r) :
  Calls Try.prog 102 #[.pointer (some ⟨px,0,none⟩),.pointer (some ⟨pd,0,none⟩)] w fun e w'=>e = .returned (.int .i64 r) ∧ Drawn0 w w':=by
 unfold impl_MostCount_1.f at h
 by_cases c:a0_1 = 0
 ·rw [if_pos c] at h
  cases h
 rw [if_neg c] at h
 obtain rfl:=Option.some.inj h
 have cb0:(a0_1 == 0) = false:=beq_eq_false_iff_ne.mpr c
 have cb1:(a0_1 != 0) = true:=bne_iff_ne.mpr c
 clear h
 go_enter Try.func102,Try.ntmps102
 go_wp2
 go_ret
 exact ⟨by first|rfl|(simp;done)|(simp [*];done),by repeat (first|exact Drawn0.refl _|apply Drawn0.step)⟩
theorem impl_MostCount_b.calls (a0_0 a0_1 a1 r1:Int) (r2:Bool) (pd px:Nat) (w:World) (hx:w.cell? ⟨px,0,none⟩ = some (.int .i64 a1)) (h0:w.cell? ⟨pd,0,none⟩ = some (.int .i64 a0_0)) (h1:w.cell? ⟨pd,1,none⟩ = some (.int .i64 a0_1)) (h:impl_MostCount.f a0_0 a0_1 a1 = some (r1,r2)) :
  Calls Try.prog 97 #[.agg #[.int .i64 a0_0,.int .i64 a0_1],.int .i64 a1,.func (.func 102) #[] #[.pointer (some ⟨px,0,none⟩),.pointer (some ⟨pd,0,none⟩)]] w fun e w'=>e = .returned (.tuple #[.int .i64 r1,.bool r2]) ∧ Below w.heap.size w w':=by
 have hu:=Try.underlying27
 unfold impl_MostCount.f at h
 obtain ⟨t1,A1,h⟩:=zO h
 have A1:=zM A1
 have hx':=zM hx
 have h0':=zM h0
 have h1':=zM h1
 clear hx h0 h1
 cases t1 with
 | false =>
  have h:=h
  simp only [Bool.false_eq_true,if_false,zI,zJ] at h
  obtain ⟨rfl,rfl⟩:=h
  go_enter Try.func97,Try.ntmps97
  go_wp2_with (go_at_call 75;(with_reducible refine (impl_DriftOk.calls a0_0 a0_1 false _ A1.out).mono ?_);rintro e w1 ⟨rfl,hb⟩;have HB:=zM (bG (bE (Below.refl _ w) _) hb);clear hb)
  go_ret2
  exact ⟨by first|rfl|(simp;done)|(simp [*];done),by repeat (first|exact HB.out|apply bD)⟩
 | true =>
  rw [if_pos rfl] at h
  obtain ⟨t2,A2,h⟩:=zO h
  have A2:=zM A2
  cases t2 with
  | false =>
   simp only [Bool.false_eq_true,if_false,zI,zJ] at h
   obtain ⟨rfl,rfl⟩:=h
   go_enter Try.func97,Try.ntmps97
   go_wp2_with (first|(go_at_call 75;(with_reducible refine (impl_DriftOk.calls a0_0 a0_1 true _ A1.out).mono ?_);rintro e w1 ⟨rfl,hb⟩;have HB:=zM (bG (bE (Below.refl _ w) _) hb);clear hb)|(go_at_call 76;(with_reducible refine (impl_isTime.calls a1 false _ A2.out).mono ?_);rintro e w' ⟨rfl,⟨nd,rfl⟩⟩))
   go_ret2
   exact ⟨by first|rfl|(simp;done)|(simp [*];done),by repeat (first|exact HB.out|apply bD)⟩
  | true =>
   rw [if_pos rfl] at h
   obtain ⟨y,A3,h⟩:=zO h
   have A3:=zM A3
   by_cases c:y ≤ 1000000000000
   ·rw [if_pos c] at h
    simp only [zI,zJ] at h
    obtain ⟨rfl,rfl⟩:=h
    have cb:decide (y ≤ 1000000000000) = true:=decide_eq_true c
    clear c
    go_enter Try.func97,Try.ntmps97
    go_wp2_with (first|(go_at_call 75;(with_reducible refine (impl_DriftOk.calls a0_0 a0_1 true _ A1.out).mono ?_);rintro e w1 ⟨rfl,hb⟩;have HB:=zM (bG (bE (Below.refl _ w) _) hb);clear hb)|(go_at_call 76;(with_reducible refine (impl_isTime.calls a1 true _ A2.out).mono ?_);rintro e w' ⟨rfl,⟨nd,rfl⟩⟩)|(go_at_call 102;(with_reducible refine (impl_MostCount_1.calls a0_0 a0_1 a1 y pd px _ ?cx ?c0 ?c1 A3.out).mono ?_);(case cx=>exact pw_cell_below (bD HB.out _) hx'.out);(case c0=>exact pw_cell_below (bD HB.out _) h0'.out);(case c1=>exact pw_cell_below (bD HB.out _) h1'.out);rintro e w' ⟨rfl,⟨nd2,rfl⟩⟩))
    go_ret2
    exact ⟨by first|rfl|(simp;done)|(simp [*];done),by repeat (first|exact HB.out|apply bD)⟩
   ·rw [if_neg c] at h
    simp only [zI,zJ] at h
    obtain ⟨rfl,rfl⟩:=h
    have cb:decide (y ≤ 1000000000000) = false:=decide_eq_false c
    clear c
    go_enter Try.func97,Try.ntmps97
    go_wp2_with (first|(go_at_call 75;(with_reducible refine (impl_DriftOk.calls a0_0 a0_1 true _ A1.out).mono ?_);rintro e w1 ⟨rfl,hb⟩;have HB:=zM (bG (bE (Below.refl _ w) _) hb);clear hb)|(go_at_call 76;(with_reducible refine (impl_isTime.calls a1 true _ A2.out).mono ?_);rintro e w' ⟨rfl,⟨nd,rfl⟩⟩)|(go_at_call 102;(with_reducible refine (impl_MostCount_1.calls a0_0 a0_1 a1 y pd px _ ?cx ?c0 ?c1 A3.out).mono ?_);(case cx=>exact pw_cell_below (bD HB.out _) hx'.out);(case c0=>exact pw_cell_below (bD HB.out _) h0'.out);(case c1=>exact pw_cell_below (bD HB.out _) h1'.out);rintro e w' ⟨rfl,⟨nd2,rfl⟩⟩))
    go_ret2
    exact ⟨by first|rfl|(simp;done)|(simp [*];done),by repeat (first|exact HB.out|apply bD)⟩
theorem impl_MostCount.calls (a0_0:Int) (a0_1:Int) (a1:Int) (r1:Int) (r2:Bool) (w:World) (h:impl_MostCount.f a0_0 a0_1 a1 = some (r1,r2)) :
  Calls Try.prog 91 #[.agg #[.int .i64 a0_0,.int .i64 a0_1],.int .i64 a1] w fun e w'=>e = .returned (.tuple #[.int .i64 r1,.bool r2]) ∧ Below w.heap.size w w':=by
 have hu:=Try.underlying27
 have A1:=zM h
 clear h
 have hmf:=@run_makeFunc_ Try.prog
 go_enter Try.func91,Try.ntmps91
 go_wp2_with (go_at_call 97;(with_reducible refine (impl_MostCount_b.calls a0_0 a0_1 a1 r1 r2 w.heap.size (w.heap.size + 1) _ ?cx ?c0 ?c1 A1.out).mono ?_);(case cx=>go_simp);(case c0=>go_simp);(case c1=>go_simp);rintro e w1 ⟨rfl,hb⟩;have HB:=zM (bG (bE (bE (Below.refl _ w) _) _) hb);clear hb)
 go_ret2
 exact ⟨rfl,HB.out⟩

/-! ### impl_both_90_91: function 84 -/
def impl_both_90_91.f (a0_0:Int) (a0_1:Int) (a1:Int)  :Option (Int × Int × Bool):=(impl_LeastCount.f a0_0 a0_1 a1).bind fun bt210=>((impl_MostCount.f a0_0 a0_1 a1).bind fun bt212=>(if bt210.2 = true then (if bt212.2 = true then (some (bt210.1,bt212.1,true)) else (some (0,0,false))) else (some (0,0,false))))
theorem impl_both_90_91.calls (a0_0:Int) (a0_1:Int) (a1:Int)   (r1:Int) (r2:Int) (r3:Bool) (w:World) (h:impl_both_90_91.f a0_0 a0_1 a1 = some (r1,r2,r3)) :
  Calls Try.prog 84 #[.agg #[.int .i64 a0_0,.int .i64 a0_1],.int .i64 a1,.func (.func 90) #[] #[],.func (.func 91) #[] #[]] w fun e w'=>e = .returned (.tuple #[.agg #[.int .i64 r1,.int .i64 r2],.bool r3]) ∧ Below w.heap.size w w':=by
 have hu27:=Try.underlying27
 have hu40:=Try.underlying40
 have HB:=zM (Below.refl w.heap.size w)
 have H:((impl_LeastCount.f a0_0 a0_1 a1).bind fun bt210=>((impl_MostCount.f a0_0 a0_1 a1).bind fun bt212=>(if bt210.2 = true then (if bt212.2 = true then (some (bt210.1,bt212.1,true)) else (some (0,0,false))) else (some (0,0,false))))) = some (r1,r2,r3):=h
 clear h
 replace H:=zO H
 obtain ⟨⟨t210,t211⟩,A50,H⟩:=H
 replace H:((impl_MostCount.f a0_0 a0_1 a1).bind fun bt212=>(if t211 = true then (if bt212.2 = true then (some (t210,bt212.1,true)) else (some (0,0,false))) else (some (0,0,false)))) = some (r1,r2,r3):=H
 have A5:=zM A50
 clear A50
 replace H:=zO H
 obtain ⟨⟨t212,t213⟩,A60,H⟩:=H
 replace H:(if t211 = true then (if t213 = true then (some (t210,t212,true)) else (some (0,0,false))) else (some (0,0,false))) = some (r1,r2,r3):=H
 have A6:=zM A60
 clear A60
 by_cases c7:t211 = true
 ·subst c7
  have H1:(if t213 = true then (some (t210,t212,true)) else (some (0,0,false))) = some (r1,r2,r3):=by rw [if_pos rfl] at H;exact H
  clear H
  have H:=H1
  clear H1
  by_cases c8:t213 = true
  ·subst c8
   have H1:(some (t210,t212,true)) = some (r1,r2,r3):=by rw [if_pos rfl] at H;exact H
   clear H
   have H:=H1
   clear H1
   simp only [zI,zJ] at H
   obtain ⟨rfl,rfl,rfl⟩:=H
   go_enter Try.func84,Try.ntmps84
   go_wp2_with (first|((with_reducible refine gate_dst (N:=4) rfl ?_);refine box_event ?hg (N:=4) ?hd (cs:=#[.int .i64 a0_0,.int .i64 a0_1]) (t:=27) ?hr ?_;(case hd=>rfl);(case hg=>rfl);(case hr=>first|(go_simp;done)|(go_simp;rfl));intro gb208 hg w9 hbox hb;have n0_:=zM (bG (by repeat (first|(with_reducible first|exact HB.out|apply bE|apply bD|apply bF)|exact HB.out)) hb);have n1_:=zM (hbox);have n2_:=zM ((by rw [hg];exact (below_size (by repeat (first|(with_reducible first|exact HB.out|apply bE|apply bD|apply bF)|exact HB.out))):w.heap.size ≤ gb208));have n3_:=zM ((by rw [hg];exact (below_size (by repeat (first|(with_reducible first|exact HB.out|apply bE|apply bD|apply bF)|exact HB.out))):w.heap.size ≤ gb208));clear HB;have HB:=n0_;have BK208:=n1_;have GW208:=n2_;have GE208:=n3_;clear n0_ n1_ n2_ n3_;clear hb hbox hg)|((with_reducible refine gate_dst (N:=8) rfl ?_);refine box_event ?hg (N:=8) ?hd (cs:=#[.int .i64 0,.int .i64 0]) (t:=40) ?hr ?_;(case hd=>rfl);(case hg=>rfl);(case hr=>first|(go_simp;done)|(go_simp;rfl));intro gb209 hg w10 hbox hb;have n0_:=zM (blk_below (g:=gb208) (o:=.cells #[.int .i64 a0_0,.int .i64 a0_1] 27 (0,0)) (by (with_reducible repeat (first|refine bA ?_ _|refine bB ?_|refine bC ?_ _));exact BK208.out) hb);have n1_:=zM (bG (by repeat (first|(with_reducible first|exact HB.out|apply bE|apply bD|apply bF|refine below_set ?_ GE208.out)|exact HB.out)) hb);have n2_:=zM (hbox);have n3_:=zM ((by rw [hg];exact (below_size (by repeat (first|(with_reducible first|exact HB.out|apply bE|apply bD|apply bF|refine below_set ?_ GE208.out)|exact HB.out))):w.heap.size ≤ gb209));have n4_:=zM ((by rw [hg];exact (below_size (by repeat (first|(with_reducible first|exact HB.out|apply bE|apply bD|apply bF|refine below_set ?_ GE208.out)|exact HB.out))):w.heap.size ≤ gb209));have n5_:=zM ((by rw [hg];exact Nat.ne_of_lt (blk_lt (g:=gb208) (o:=.cells #[.int .i64 a0_0,.int .i64 a0_1] 27 (0,0)) (by (with_reducible repeat (first|refine bA ?_ _|refine bB ?_|refine bC ?_ _));exact BK208.out)):gb208 ≠ gb209));have n6_:=zM ((by rw [hg];exact Nat.ne_of_gt (blk_lt (g:=gb208) (o:=.cells #[.int .i64 a0_0,.int .i64 a0_1] 27 (0,0)) (by (with_reducible repeat (first|refine bA ?_ _|refine bB ?_|refine bC ?_ _));exact BK208.out)):gb209 ≠ gb208));clear BK208;clear HB;have BK208:=n0_;have HB:=n1_;have BK209:=n2_;have GW209:=n3_;have GE209:=n4_;have NB208_209:=n5_;have NB209_208:=n6_;clear n0_ n1_ n2_ n3_ n4_ n5_ n6_;clear hb hbox hg;have hnb11:=NB208_209.out;have hnc11:=NB209_208.out;have hcz12_0:w10.cell? ⟨gb208,0,none⟩ = some (.int .i64 a0_0):=(blk_cell BK208.out 0).trans rfl;have hcz12_1:w10.cell? ⟨gb208,1,none⟩ = some (.int .i64 a0_1):=(blk_cell BK208.out 1).trans rfl;have hfz12_0:=blk_frozen BK208.out 0;have hfz12_1:=blk_frozen BK208.out 1)|((with_reducible refine gate_tmpcall (t:=15) rfl ?_);refine goesT_ (some 18) rfl rfl Try.func90 (by kernel_rfl) rfl #[.agg #[.int .i64 a0_0,.int .i64 a0_1],.int .i64 a1] rfl (by (try simp only [List.map_toArray,List.map_cons,List.map_nil]);first|done|rfl) ?_;(with_reducible refine (impl_LeastCount.calls a0_0 a0_1 a1 t210 true _ A5.out).mono ?_);rintro e w13 ⟨rfl,hb⟩;refine ⟨_,rfl,?_⟩;have n0_:=zM (blk_below (g:=gb208) (o:=.cells #[.int .i64 a0_0,.int .i64 a0_1] 27 (0,0)) (by (with_reducible repeat (first|refine bA ?_ _|refine bB ?_|refine bC ?_ _));exact BK208.out) hb);have n1_:=zM (blk_below (g:=gb209) (o:=.cells #[.int .i64 0,.int .i64 0] 40 (0,0)) (by (with_reducible repeat (first|refine bA ?_ _|refine bB ?_|refine bC ?_ _));exact BK209.out) hb);have n2_:=zM (bG (by repeat (first|(with_reducible first|exact HB.out|apply bE|apply bD|apply bF|refine below_set ?_ GE208.out|refine below_set ?_ GE209.out)|exact HB.out)) hb);clear BK208;clear BK209;clear HB;have BK208:=n0_;have BK209:=n1_;have HB:=n2_;clear n0_ n1_ n2_;(try clear hb);(try clear hk);(try clear hi);have hcz14_0:w13.cell? ⟨gb208,0,none⟩ = some (.int .i64 a0_0):=(blk_cell BK208.out 0).trans rfl;have hcz14_1:w13.cell? ⟨gb208,1,none⟩ = some (.int .i64 a0_1):=(blk_cell BK208.out 1).trans rfl;have hfz14_0:=blk_frozen BK208.out 0;have hfz14_1:=blk_frozen BK208.out 1)|((with_reducible refine gate_tmpcall (t:=22) rfl ?_);refine goesT_ (some 25) rfl rfl Try.func91 (by kernel_rfl) rfl #[.agg #[.int .i64 a0_0,.int .i64 a0_1],.int .i64 a1] rfl (by (try simp only [List.map_toArray,List.map_cons,List.map_nil]);first|done|rfl) ?_;(with_reducible refine (impl_MostCount.calls a0_0 a0_1 a1 t212 true _ A6.out).mono ?_);rintro e w15 ⟨rfl,hb⟩;refine ⟨_,rfl,?_⟩;have n0_:=zM (blk_below (g:=gb208) (o:=.cells #[.int .i64 a0_0,.int .i64 a0_1] 27 (0,0)) (by (with_reducible repeat (first|refine bA ?_ _|refine bB ?_|refine bC ?_ _));exact BK208.out) hb);have n1_:=zM (blk_below (g:=gb209) (o:=.cells #[.int .i64 0,.int .i64 0] 40 (0,0)) (by (with_reducible repeat (first|refine bA ?_ _|refine bB ?_|refine bC ?_ _));exact BK209.out) hb);have n2_:=zM (bG (by repeat (first|(with_reducible first|exact HB.out|apply bE|apply bD|apply bF|refine below_set ?_ GE208.out|refine below_set ?_ GE209.out)|exact HB.out)) hb);clear BK208;clear BK209;clear HB;have BK208:=n0_;have BK209:=n1_;have HB:=n2_;clear n0_ n1_ n2_;(try clear hb);(try clear hk);(try clear hi);have hcz16_0:w15.cell? ⟨gb209,0,none⟩ = some (.int .i64 0):=(blk_cell BK209.out 0).trans rfl;have hcz16_1:w15.cell? ⟨gb209,1,none⟩ = some (.int .i64 0):=(blk_cell BK209.out 1).trans rfl;have hfz16_0:=blk_frozen BK209.out 0;have hfz16_1:=blk_frozen BK209.out 1))
   refine bodyPost_ret (results_ct rfl _ _ gb209 40 #[.int .i64 t210,.int .i64 t212] (0,0) _ rfl (by (with_reducible repeat (first|refine bA ?_ _|refine bB ?_|refine bC ?_ _));refine bH (cs:=#[.int .i64 t210,.int .i64 0]) ?_ 1 _ rfl;(with_reducible repeat (first|refine bA ?_ _|refine bB ?_|refine bC ?_ _));refine bH (cs:=#[.int .i64 0,.int .i64 0]) ?_ 0 _ rfl;(with_reducible repeat (first|refine bA ?_ _|refine bB ?_|refine bC ?_ _));exact BK209.out) Try.underlying40 rfl (by kernel_rfl)) rfl ?_
   exact ⟨by first|rfl|(simp [*,errW_none,errW_some] <;> rfl),by repeat (first|(with_reducible first|exact HB.out|apply bE|apply bD|apply bF|refine below_set ?_ GE208.out|refine below_set ?_ GE209.out)|exact HB.out)⟩
  ·replace c8:=Bool.eq_false_iff.mpr c8
   subst c8
   have H1:(some (0,0,false)) = some (r1,r2,r3):=by rw [if_neg (show ¬ (false = true) by decide)] at H;exact H
   clear H
   have H:=H1
   clear H1
   simp only [zI,zJ] at H
   obtain ⟨rfl,rfl,rfl⟩:=H
   go_enter Try.func84,Try.ntmps84
   go_wp2_with (first|((with_reducible refine gate_dst (N:=4) rfl ?_);refine box_event ?hg (N:=4) ?hd (cs:=#[.int .i64 a0_0,.int .i64 a0_1]) (t:=27) ?hr ?_;(case hd=>rfl);(case hg=>rfl);(case hr=>first|(go_simp;done)|(go_simp;rfl));intro gb208 hg w17 hbox hb;have n0_:=zM (bG (by repeat (first|(with_reducible first|exact HB.out|apply bE|apply bD|apply bF)|exact HB.out)) hb);have n1_:=zM (hbox);have n2_:=zM ((by rw [hg];exact (below_size (by repeat (first|(with_reducible first|exact HB.out|apply bE|apply bD|apply bF)|exact HB.out))):w.heap.size ≤ gb208));have n3_:=zM ((by rw [hg];exact (below_size (by repeat (first|(with_reducible first|exact HB.out|apply bE|apply bD|apply bF)|exact HB.out))):w.heap.size ≤ gb208));clear HB;have HB:=n0_;have BK208:=n1_;have GW208:=n2_;have GE208:=n3_;clear n0_ n1_ n2_ n3_;clear hb hbox hg)|((with_reducible refine gate_dst (N:=8) rfl ?_);refine box_event ?hg (N:=8) ?hd (cs:=#[.int .i64 0,.int .i64 0]) (t:=40) ?hr ?_;(case hd=>rfl);(case hg=>rfl);(case hr=>first|(go_simp;done)|(go_simp;rfl));intro gb209 hg w18 hbox hb;have n0_:=zM (blk_below (g:=gb208) (o:=.cells #[.int .i64 a0_0,.int .i64 a0_1] 27 (0,0)) (by (with_reducible repeat (first|refine bA ?_ _|refine bB ?_|refine bC ?_ _));exact BK208.out) hb);have n1_:=zM (bG (by repeat (first|(with_reducible first|exact HB.out|apply bE|apply bD|apply bF|refine below_set ?_ GE208.out)|exact HB.out)) hb);have n2_:=zM (hbox);have n3_:=zM ((by rw [hg];exact (below_size (by repeat (first|(with_reducible first|exact HB.out|apply bE|apply bD|apply bF|refine below_set ?_ GE208.out)|exact HB.out))):w.heap.size ≤ gb209));have n4_:=zM ((by rw [hg];exact (below_size (by repeat (first|(with_reducible first|exact HB.out|apply bE|apply bD|apply bF|refine below_set ?_ GE208.out)|exact HB.out))):w.heap.size ≤ gb209));have n5_:=zM ((by rw [hg];exact Nat.ne_of_lt (blk_lt (g:=gb208) (o:=.cells #[.int .i64 a0_0,.int .i64 a0_1] 27 (0,0)) (by (with_reducible repeat (first|refine bA ?_ _|refine bB ?_|refine bC ?_ _));exact BK208.out)):gb208 ≠ gb209));have n6_:=zM ((by rw [hg];exact Nat.ne_of_gt (blk_lt (g:=gb208) (o:=.cells #[.int .i64 a0_0,.int .i64 a0_1] 27 (0,0)) (by (with_reducible repeat (first|refine bA ?_ _|refine bB ?_|refine bC ?_ _));exact BK208.out)):gb209 ≠ gb208));clear BK208;clear HB;have BK208:=n0_;have HB:=n1_;have BK209:=n2_;have GW209:=n3_;have GE209:=n4_;have NB208_209:=n5_;have NB209_208:=n6_;clear n0_ n1_ n2_ n3_ n4_ n5_ n6_;clear hb hbox hg;have hnb19:=NB208_209.out;have hnc19:=NB209_208.out;have hcz20_0:w18.cell? ⟨gb208,0,none⟩ = some (.int .i64 a0_0):=(blk_cell BK208.out 0).trans rfl;have hcz20_1:w18.cell? ⟨gb208,1,none⟩ = some (.int .i64 a0_1):=(blk_cell BK208.out 1).trans rfl;have hfz20_0:=blk_frozen BK208.out 0;have hfz20_1:=blk_frozen BK208.out 1)|((with_reducible refine gate_tmpcall (t:=15) rfl ?_);refine goesT_ (some 18) rfl rfl Try.func90 (by kernel_rfl) rfl #[.agg #[.int .i64 a0_0,.int .i64 a0_1],.int .i64 a1] rfl (by (try simp only [List.map_toArray,List.map_cons,List.map_nil]);first|done|rfl) ?_;(with_reducible refine (impl_LeastCount.calls a0_0 a0_1 a1 t210 true _ A5.out).mono ?_);rintro e w21 ⟨rfl,hb⟩;refine ⟨_,rfl,?_⟩;have n0_:=zM (blk_below (g:=gb208) (o:=.cells #[.int .i64 a0_0,.int .i64 a0_1] 27 (0,0)) (by (with_reducible repeat (first|refine bA ?_ _|refine bB ?_|refine bC ?_ _));exact BK208.out) hb);have n1_:=zM (blk_below (g:=gb209) (o:=.cells #[.int .i64 0,.int .i64 0] 40 (0,0)) (by (with_reducible repeat (first|refine bA ?_ _|refine bB ?_|refine bC ?_ _));exact BK209.out) hb);have n2_:=zM (bG (by repeat (first|(with_reducible first|exact HB.out|apply bE|apply bD|apply bF|refine below_set ?_ GE208.out|refine below_set ?_ GE209.out)|exact HB.out)) hb);clear BK208;clear BK209;clear HB;have BK208:=n0_;have BK209:=n1_;have HB:=n2_;clear n0_ n1_ n2_;(try clear hb);(try clear hk);(try clear hi);have hcz22_0:w21.cell? ⟨gb208,0,none⟩ = some (.int .i64 a0_0):=(blk_cell BK208.out 0).trans rfl;have hcz22_1:w21.cell? ⟨gb208,1,none⟩ = some (.int .i64 a0_1):=(blk_cell BK208.out 1).trans rfl;have hfz22_0:=blk_frozen BK208.out 0;have hfz22_1:=blk_frozen BK208.out 1)|((with_reducible refine gate_tmpcall (t:=22) rfl ?_);refine goesT_ (some 25) rfl rfl Try.func91 (by kernel_rfl) rfl #[.agg #[.int .i64 a0_0,.int .i64 a0_1],.int .i64 a1] rfl (by (try simp only [List.map_toArray,List.map_cons,List.map_nil]);first|done|rfl) ?_;(with_reducible refine (impl_MostCount.calls a0_0 a0_1 a1 t212 false _ A6.out).mono ?_);rintro e w23 ⟨rfl,hb⟩;refine ⟨_,rfl,?_⟩;have n0_:=zM (blk_below (g:=gb208) (o:=.cells #[.int .i64 a0_0,.int .i64 a0_1] 27 (0,0)) (by (with_reducible repeat (first|refine bA ?_ _|refine bB ?_|refine bC ?_ _));exact BK208.out) hb);have n1_:=zM (blk_below (g:=gb209) (o:=.cells #[.int .i64 0,.int .i64 0] 40 (0,0)) (by (with_reducible repeat (first|refine bA ?_ _|refine bB ?_|refine bC ?_ _));exact BK209.out) hb);have n2_:=zM (bG (by repeat (first|(with_reducible first|exact HB.out|apply bE|apply bD|apply bF|refine below_set ?_ GE208.out|refine below_set ?_ GE209.out)|exact HB.out)) hb);clear BK208;clear BK209;clear HB;have BK208:=n0_;have BK209:=n1_;have HB:=n2_;clear n0_ n1_ n2_;(try clear hb);(try clear hk);(try clear hi);have hcz24_0:w23.cell? ⟨gb209,0,none⟩ = some (.int .i64 0):=(blk_cell BK209.out 0).trans rfl;have hcz24_1:w23.cell? ⟨gb209,1,none⟩ = some (.int .i64 0):=(blk_cell BK209.out 1).trans rfl;have hfz24_0:=blk_frozen BK209.out 0;have hfz24_1:=blk_frozen BK209.out 1))
   refine bodyPost_ret (results_ct rfl _ _ gb209 40 #[.int .i64 0,.int .i64 0] (0,0) _ rfl (by (with_reducible repeat (first|refine bA ?_ _|refine bB ?_|refine bC ?_ _));refine bH (cs:=#[.int .i64 0,.int .i64 0]) ?_ 1 _ rfl;(with_reducible repeat (first|refine bA ?_ _|refine bB ?_|refine bC ?_ _));refine bH (cs:=#[.int .i64 0,.int .i64 0]) ?_ 0 _ rfl;(with_reducible repeat (first|refine bA ?_ _|refine bB ?_|refine bC ?_ _));exact BK209.out) Try.underlying40 rfl (by kernel_rfl)) rfl ?_
   exact ⟨by first|rfl|(simp [*,errW_none,errW_some] <;> rfl),by repeat (first|(with_reducible first|exact HB.out|apply bE|apply bD|apply bF|refine below_set ?_ GE208.out|refine below_set ?_ GE209.out)|exact HB.out)⟩
 ·replace c7:=Bool.eq_false_iff.mpr c7
  subst c7
  have H1:(some (0,0,false)) = some (r1,r2,r3):=by rw [if_neg (show ¬ (false = true) by decide)] at H;exact H
  clear H
  have H:=H1
  clear H1
  simp only [zI,zJ] at H
  obtain ⟨rfl,rfl,rfl⟩:=H
  go_enter Try.func84,Try.ntmps84
  go_wp2_with (first|((with_reducible refine gate_dst (N:=4) rfl ?_);refine box_event ?hg (N:=4) ?hd (cs:=#[.int .i64 a0_0,.int .i64 a0_1]) (t:=27) ?hr ?_;(case hd=>rfl);(case hg=>rfl);(case hr=>first|(go_simp;done)|(go_simp;rfl));intro gb208 hg w25 hbox hb;have n0_:=zM (bG (by repeat (first|(with_reducible first|exact HB.out|apply bE|apply bD|apply bF)|exact HB.out)) hb);have n1_:=zM (hbox);have n2_:=zM ((by rw [hg];exact (below_size (by repeat (first|(with_reducible first|exact HB.out|apply bE|apply bD|apply bF)|exact HB.out))):w.heap.size ≤ gb208));have n3_:=zM ((by rw [hg];exact (below_size (by repeat (first|(with_reducible first|exact HB.out|apply bE|apply bD|apply bF)|exact HB.out))):w.heap.size ≤ gb208));clear HB;have HB:=n0_;have BK208:=n1_;have GW208:=n2_;have GE208:=n3_;clear n0_ n1_ n2_ n3_;clear hb hbox hg)|((with_reducible refine gate_dst (N:=8) rfl ?_);refine box_event ?hg (N:=8) ?hd (cs:=#[.int .i64 0,.int .i64 0]) (t:=40) ?hr ?_;(case hd=>rfl);(case hg=>rfl);(case hr=>first|(go_simp;done)|(go_simp;rfl));intro gb209 hg w26 hbox hb;have n0_:=zM (blk_below (g:=gb208) (o:=.cells #[.int .i64 a0_0,.int .i64 a0_1] 27 (0,0)) (by (with_reducible repeat (first|refine bA ?_ _|refine bB ?_|refine bC ?_ _));exact BK208.out) hb);have n1_:=zM (bG (by repeat (first|(with_reducible first|exact HB.out|apply bE|apply bD|apply bF|refine below_set ?_ GE208.out)|exact HB.out)) hb);have n2_:=zM (hbox);have n3_:=zM ((by rw [hg];exact (below_size (by repeat (first|(with_reducible first|exact HB.out|apply bE|apply bD|apply bF|refine below_set ?_ GE208.out)|exact HB.out))):w.heap.size ≤ gb209));have n4_:=zM ((by rw [hg];exact (below_size (by repeat (first|(with_reducible first|exact HB.out|apply bE|apply bD|apply bF|refine below_set ?_ GE208.out)|exact HB.out))):w.heap.size ≤ gb209));have n5_:=zM ((by rw [hg];exact Nat.ne_of_lt (blk_lt (g:=gb208) (o:=.cells #[.int .i64 a0_0,.int .i64 a0_1] 27 (0,0)) (by (with_reducible repeat (first|refine bA ?_ _|refine bB ?_|refine bC ?_ _));exact BK208.out)):gb208 ≠ gb209));have n6_:=zM ((by rw [hg];exact Nat.ne_of_gt (blk_lt (g:=gb208) (o:=.cells #[.int .i64 a0_0,.int .i64 a0_1] 27 (0,0)) (by (with_reducible repeat (first|refine bA ?_ _|refine bB ?_|refine bC ?_ _));exact BK208.out)):gb209 ≠ gb208));clear BK208;clear HB;have BK208:=n0_;have HB:=n1_;have BK209:=n2_;have GW209:=n3_;have GE209:=n4_;have NB208_209:=n5_;have NB209_208:=n6_;clear n0_ n1_ n2_ n3_ n4_ n5_ n6_;clear hb hbox hg;have hnb27:=NB208_209.out;have hnc27:=NB209_208.out;have hcz28_0:w26.cell? ⟨gb208,0,none⟩ = some (.int .i64 a0_0):=(blk_cell BK208.out 0).trans rfl;have hcz28_1:w26.cell? ⟨gb208,1,none⟩ = some (.int .i64 a0_1):=(blk_cell BK208.out 1).trans rfl;have hfz28_0:=blk_frozen BK208.out 0;have hfz28_1:=blk_frozen BK208.out 1)|((with_reducible refine gate_tmpcall (t:=15) rfl ?_);refine goesT_ (some 18) rfl rfl Try.func90 (by kernel_rfl) rfl #[.agg #[.int .i64 a0_0,.int .i64 a0_1],.int .i64 a1] rfl (by (try simp only [List.map_toArray,List.map_cons,List.map_nil]);first|done|rfl) ?_;(with_reducible refine (impl_LeastCount.calls a0_0 a0_1 a1 t210 false _ A5.out).mono ?_);rintro e w29 ⟨rfl,hb⟩;refine ⟨_,rfl,?_⟩;have n0_:=zM (blk_below (g:=gb208) (o:=.cells #[.int .i64 a0_0,.int .i64 a0_1] 27 (0,0)) (by (with_reducible repeat (first|refine bA ?_ _|refine bB ?_|refine bC ?_ _));exact BK208.out) hb);have n1_:=zM (blk_below (g:=gb209) (o:=.cells #[.int .i64 0,.int .i64 0] 40 (0,0)) (by (with_reducible repeat (first|refine bA ?_ _|refine bB ?_|refine bC ?_ _));exact BK209.out) hb);have n2_:=zM (bG (by repeat (first|(with_reducible first|exact HB.out|apply bE|apply bD|apply bF|refine below_set ?_ GE208.out|refine below_set ?_ GE209.out)|exact HB.out)) hb);clear BK208;clear BK209;clear HB;have BK208:=n0_;have BK209:=n1_;have HB:=n2_;clear n0_ n1_ n2_;(try clear hb);(try clear hk);(try clear hi);have hcz30_0:w29.cell? ⟨gb208,0,none⟩ = some (.int .i64 a0_0):=(blk_cell BK208.out 0).trans rfl;have hcz30_1:w29.cell? ⟨gb208,1,none⟩ = some (.int .i64 a0_1):=(blk_cell BK208.out 1).trans rfl;have hfz30_0:=blk_frozen BK208.out 0;have hfz30_1:=blk_frozen BK208.out 1)|((with_reducible refine gate_tmpcall (t:=22) rfl ?_);refine goesT_ (some 25) rfl rfl Try.func91 (by kernel_rfl) rfl #[.agg #[.int .i64 a0_0,.int .i64 a0_1],.int .i64 a1] rfl (by (try simp only [List.map_toArray,List.map_cons,List.map_nil]);first|done|rfl) ?_;(with_reducible refine (impl_MostCount.calls a0_0 a0_1 a1 t212 t213 _ A6.out).mono ?_);rintro e w31 ⟨rfl,hb⟩;refine ⟨_,rfl,?_⟩;have n0_:=zM (blk_below (g:=gb208) (o:=.cells #[.int .i64 a0_0,.int .i64 a0_1] 27 (0,0)) (by (with_reducible repeat (first|refine bA ?_ _|refine bB ?_|refine bC ?_ _));exact BK208.out) hb);have n1_:=zM (blk_below (g:=gb209) (o:=.cells #[.int .i64 0,.int .i64 0] 40 (0,0)) (by (with_reducible repeat (first|refine bA ?_ _|refine bB ?_|refine bC ?_ _));exact BK209.out) hb);have n2_:=zM (bG (by repeat (first|(with_reducible first|exact HB.out|apply bE|apply bD|apply bF|refine below_set ?_ GE208.out|refine below_set ?_ GE209.out)|exact HB.out)) hb);clear BK208;clear BK209;clear HB;have BK208:=n0_;have BK209:=n1_;have HB:=n2_;clear n0_ n1_ n2_;(try clear hb);(try clear hk);(try clear hi);have hcz32_0:w31.cell? ⟨gb209,0,none⟩ = some (.int .i64 0):=(blk_cell BK209.out 0).trans rfl;have hcz32_1:w31.cell? ⟨gb209,1,none⟩ = some (.int .i64 0):=(blk_cell BK209.out 1).trans rfl;have hfz32_0:=blk_frozen BK209.out 0;have hfz32_1:=blk_frozen BK209.out 1))
  refine bodyPost_ret (results_ct rfl _ _ gb209 40 #[.int .i64 0,.int .i64 0] (0,0) _ rfl (by (with_reducible repeat (first|refine bA ?_ _|refine bB ?_|refine bC ?_ _));refine bH (cs:=#[.int .i64 0,.int .i64 0]) ?_ 1 _ rfl;(with_reducible repeat (first|refine bA ?_ _|refine bB ?_|refine bC ?_ _));refine bH (cs:=#[.int .i64 0,.int .i64 0]) ?_ 0 _ rfl;(with_reducible repeat (first|refine bA ?_ _|refine bB ?_|refine bC ?_ _));exact BK209.out) Try.underlying40 rfl (by kernel_rfl)) rfl ?_
  exact ⟨by first|rfl|(simp [*,errW_none,errW_some] <;> rfl),by repeat (first|(with_reducible first|exact HB.out|apply bE|apply bD|apply bF|refine below_set ?_ GE208.out|refine below_set ?_ GE209.out)|exact HB.out)⟩

/-! ### impl_counts: function 62 -/
def impl_counts.f (a0_0:Int) (a0_1:Int) (a1:Int):Option (Int × Int × Bool):=(impl_both_90_91.f a0_0 a0_1 a1).bind fun bt216=>(some (bt216.1,bt216.2.1,bt216.2.2))
theorem impl_counts.calls (a0_0:Int) (a0_1:Int) (a1:Int) (r1:Int) (r2:Int) (r3:Bool) (w:World) (h:impl_counts.f a0_0 a0_1 a1 = some (r1,r2,r3)) :
  Calls Try.prog 62 #[.agg #[.int .i64 a0_0,.int .i64 a0_1],.int .i64 a1] w fun e w'=>e = .returned (.tuple #[.agg #[.int .i64 r1,.int .i64 r2],.bool r3]) ∧ Below w.heap.size w w':=by
 have hu27:=Try.underlying27
 have hu40:=Try.underlying40
 have HB:=zM (Below.refl w.heap.size w)
 have H:((impl_both_90_91.f a0_0 a0_1 a1).bind fun bt216=>(some (bt216.1,bt216.2.1,bt216.2.2))) = some (r1,r2,r3):=h
 clear h
 replace H:=zO H
 obtain ⟨⟨t216,t217,t218⟩,A30,H⟩:=H
 replace H:(some (t216,t217,t218)) = some (r1,r2,r3):=H
 have A3:=zM A30
 clear A30
 simp only [zI,zJ] at H
 obtain ⟨rfl,rfl,rfl⟩:=H
 go_enter Try.func62,Try.ntmps62
 go_wp2_with (first|((with_reducible refine gate_dst (N:=2) rfl ?_);refine box_event ?hg (N:=2) ?hd (cs:=#[.int .i64 a0_0,.int .i64 a0_1]) (t:=27) ?hr ?_;(case hd=>rfl);(case hg=>rfl);(case hr=>first|(go_simp;done)|(go_simp;rfl));intro gb214 hg w4 hbox hb;have n0_:=zM (bG (by repeat (first|(with_reducible first|exact HB.out|apply bE|apply bD|apply bF)|exact HB.out)) hb);have n1_:=zM (hbox);have n2_:=zM ((by rw [hg];exact (below_size (by repeat (first|(with_reducible first|exact HB.out|apply bE|apply bD|apply bF)|exact HB.out))):w.heap.size ≤ gb214));have n3_:=zM ((by rw [hg];exact (below_size (by repeat (first|(with_reducible first|exact HB.out|apply bE|apply bD|apply bF)|exact HB.out))):w.heap.size ≤ gb214));clear HB;have HB:=n0_;have BK214:=n1_;have GW214:=n2_;have GE214:=n3_;clear n0_ n1_ n2_ n3_;clear hb hbox hg)|((with_reducible refine gate_dst (N:=4) rfl ?_);refine box_event ?hg (N:=4) ?hd (cs:=#[.int .i64 0,.int .i64 0]) (t:=40) ?hr ?_;(case hd=>rfl);(case hg=>rfl);(case hr=>first|(go_simp;done)|(go_simp;rfl));intro gb215 hg w5 hbox hb;have n0_:=zM (blk_below (g:=gb214) (o:=.cells #[.int .i64 a0_0,.int .i64 a0_1] 27 (0,0)) (by (with_reducible repeat (first|refine bA ?_ _|refine bB ?_|refine bC ?_ _));exact BK214.out) hb);have n1_:=zM (bG (by repeat (first|(with_reducible first|exact HB.out|apply bE|apply bD|apply bF|refine below_set ?_ GE214.out)|exact HB.out)) hb);have n2_:=zM (hbox);have n3_:=zM ((by rw [hg];exact (below_size (by repeat (first|(with_reducible first|exact HB.out|apply bE|apply bD|apply bF|refine below_set ?_ GE214.out)|exact HB.out))):w.heap.size ≤ gb215));have n4_:=zM ((by rw [hg];exact (below_size (by repeat (first|(with_reducible first|exact HB.out|apply bE|apply bD|apply bF|refine below_set ?_ GE214.out)|exact HB.out))):w.heap.size ≤ gb215));have n5_:=zM ((by rw [hg];exact Nat.ne_of_lt (blk_lt (g:=gb214) (o:=.cells #[.int .i64 a0_0,.int .i64 a0_1] 27 (0,0)) (by (with_reducible repeat (first|refine bA ?_ _|refine bB ?_|refine bC ?_ _));exact BK214.out)):gb214 ≠ gb215));have n6_:=zM ((by rw [hg];exact Nat.ne_of_gt (blk_lt (g:=gb214) (o:=.cells #[.int .i64 a0_0,.int .i64 a0_1] 27 (0,0)) (by (with_reducible repeat (first|refine bA ?_ _|refine bB ?_|refine bC ?_ _));exact BK214.out)):gb215 ≠ gb214));clear BK214;clear HB;have BK214:=n0_;have HB:=n1_;have BK215:=n2_;have GW215:=n3_;have GE215:=n4_;have NB214_215:=n5_;have NB215_214:=n6_;clear n0_ n1_ n2_ n3_ n4_ n5_ n6_;clear hb hbox hg;have hnb6:=NB214_215.out;have hnc6:=NB215_214.out;have hcz7_0:w5.cell? ⟨gb214,0,none⟩ = some (.int .i64 a0_0):=(blk_cell BK214.out 0).trans rfl;have hcz7_1:w5.cell? ⟨gb214,1,none⟩ = some (.int .i64 a0_1):=(blk_cell BK214.out 1).trans rfl;have hfz7_0:=blk_frozen BK214.out 0;have hfz7_1:=blk_frozen BK214.out 1)|((with_reducible refine gate_callee (f:=84) rfl ?_);refine goesL_ (some 8) rfl rfl Try.func84 (by kernel_rfl) rfl #[.agg #[.int .i64 a0_0,.int .i64 a0_1],.int .i64 a1,.func (.func 90) #[] #[],.func (.func 91) #[] #[]] rfl (by (try simp only [List.map_toArray,List.map_cons,List.map_nil]);first|done|rfl) ?_;(with_reducible refine (impl_both_90_91.calls a0_0 a0_1 a1   t216 t217 t218 _ A3.out).mono ?_);rintro e w8 ⟨rfl,hb⟩;refine ⟨_,rfl,?_⟩;have n0_:=zM (blk_below (g:=gb214) (o:=.cells #[.int .i64 a0_0,.int .i64 a0_1] 27 (0,0)) (by (with_reducible repeat (first|refine bA ?_ _|refine bB ?_|refine bC ?_ _));exact BK214.out) hb);have n1_:=zM (blk_below (g:=gb215) (o:=.cells #[.int .i64 0,.int .i64 0] 40 (0,0)) (by (with_reducible repeat (first|refine bA ?_ _|refine bB ?_|refine bC ?_ _));exact BK215.out) hb);have n2_:=zM (bG (by repeat (first|(with_reducible first|exact HB.out|apply bE|apply bD|apply bF|refine below_set ?_ GE214.out|refine below_set ?_ GE215.out)|exact HB.out)) hb);clear BK214;clear BK215;clear HB;have BK214:=n0_;have BK215:=n1_;have HB:=n2_;clear n0_ n1_ n2_;(try clear hb);(try clear hk);(try clear hi);have hcz9_0:w8.cell? ⟨gb215,0,none⟩ = some (.int .i64 0):=(blk_cell BK215.out 0).trans rfl;have hcz9_1:w8.cell? ⟨gb215,1,none⟩ = some (.int .i64 0):=(blk_cell BK215.out 1).trans rfl;have hfz9_0:=blk_frozen BK215.out 0;have hfz9_1:=blk_frozen BK215.out 1))
 refine bodyPost_ret (results_ct rfl _ _ gb215 40 #[.int .i64 t216,.int .i64 t217] (0,0) _ rfl (by (with_reducible repeat (first|refine bA ?_ _|refine bB ?_|refine bC ?_ _));refine bH (cs:=#[.int .i64 t216,.int .i64 0]) ?_ 1 _ rfl;(with_reducible repeat (first|refine bA ?_ _|refine bB ?_|refine bC ?_ _));refine bH (cs:=#[.int .i64 0,.int .i64 0]) ?_ 0 _ rfl;(with_reducible repeat (first|refine bA ?_ _|refine bB ?_|refine bC ?_ _));exact BK215.out) Try.underlying40 rfl (by kernel_rfl)) rfl ?_
 exact ⟨by first|rfl|(simp [*,errW_none,errW_some] <;> rfl),by repeat (first|(with_reducible first|exact HB.out|apply bE|apply bD|apply bF|refine below_set ?_ GE214.out|refine below_set ?_ GE215.out)|exact HB.out)⟩

end Go.Proofs.Ytlikojcfjamgpaa.XFnExactCountWhen
