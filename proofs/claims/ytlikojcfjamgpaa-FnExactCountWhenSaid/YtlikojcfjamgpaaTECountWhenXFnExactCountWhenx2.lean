-- Written by a program of this claim's session (wip/xprint.py), out of the translation.
import Derived.Test.YtlikojcfjamgpaaTECountWhenXFnExactCountWhenx0
import Derived.Test.YtlikojcfjamgpaaTECountWhenXFnExactCountWhenx1
namespace Go.Proofs.Ytlikojcfjamgpaa.XFnExactCountWhen
open Go.RowKit Go.Proofs.YtlikojcfjamgpaaW.PrintWords Go.Proofs.YtlikojcfjamgpaaW.PrintLast Go.Proofs.YtlikojcfjamgpaaW.PrintMore
open Go.Proofs.YtlikojcfjamgpaaW.PrintWords renaming blk_drewN → bA, blk_drew → bB, blk_alloc → bC, pw_below_drewN → bD, below_alloc → bE, below_drew1 → bF, Aside0.mk → zM, below_step → bG, blk_put → bH
open List renaming setIfInBounds_toArray → zS, set_cons_zero → z0, set_cons_succ → z1
attribute [local go_sem] max2_int min2_int max_two min_two max_three min_three max_four min_four
set_option linter.unusedVariables false
set_option linter.unusedSimpArgs false
set_option maxHeartbeats 8000000
set_option maxRecDepth 100000

/-! ### spec_l3Marks: function 42 -/
mutual
def spec_l3Marks.j0:Nat → List (S38) → Bool → Option (Bool)
 | 0,_,_=>none
 | k + 1,x1,x14=>if x14 = true then (some false) else (spec_l3Marks.l0 k x1 0)
def spec_l3Marks.l0:Nat → List (S38) → Int → Option (Bool)
 | 0,_,_=>none
 | k + 1,x1,x5=>if x5 < (x1.length:Int) then (if 0 ≤ x5 then ((spec_l2Time.f ((rd_T38 x1 x5).f0)).bind fun t129=>(if t129 = true then ((spec_l2Time.f ((rd_T38 x1 x5).f1)).bind fun t131=>(if t131 = true then (spec_l3Marks.l0 k x1 (wrap64 (x5 + 1))) else (some false))) else (some false))) else (none)) else (some true)
end
def spec_l3Marks.f (k:Nat) (a0_0:Int) (a0_1:Int) (l1:List (S38)):Option (Bool):=(spec_DriftOk.f a0_0 a0_1).bind fun t126=>(if t126 = true then ((spec_l1In.f (l1.length:Int) 1 201).bind fun t127=>(spec_l3Marks.j0 k l1 (!t127))) else (spec_l3Marks.j0 k l1 true))
theorem spec_l3Marks.mono_l:∀ k,(∀ y0 y1,LeO (spec_l3Marks.j0 k y0 y1) (spec_l3Marks.j0 (k + 1) y0 y1)) ∧ (∀ y0 y1,LeO (spec_l3Marks.l0 k y0 y1) (spec_l3Marks.l0 (k + 1) y0 y1))
 | 0=>⟨fun _ _ r h=>by simp [spec_l3Marks.j0] at h,fun _ _ r h=>by simp [spec_l3Marks.l0] at h⟩
 | k + 1=>by
  obtain ⟨ih0,ih1⟩:=spec_l3Marks.mono_l k
  refine ⟨?_,?_⟩
  ·intro y0 y1
   unfold spec_l3Marks.j0
   repeat' first
   | (with_reducible exact ih0 _ _)
   | (with_reducible exact ih1 _ _)
   | (with_reducible exact LeO.refl _)
   | (with_reducible exact LeO.none _)
   | (with_reducible refine LeO.ite ?_ ?_)
   | (with_reducible refine LeO.bind ?_ (fun _=>?_))
   | exact ih0 _ _
   | exact ih1 _ _
   | exact LeO.none _
   | refine LeO.ite ?_ ?_
   | refine LeO.bind ?_ (fun _=>?_)
  ·intro y0 y1
   unfold spec_l3Marks.l0
   repeat' first
   | (with_reducible exact ih0 _ _)
   | (with_reducible exact ih1 _ _)
   | (with_reducible exact LeO.refl _)
   | (with_reducible exact LeO.none _)
   | (with_reducible refine LeO.ite ?_ ?_)
   | (with_reducible refine LeO.bind ?_ (fun _=>?_))
   | exact ih0 _ _
   | exact ih1 _ _
   | exact LeO.none _
   | refine LeO.ite ?_ ?_
   | refine LeO.bind ?_ (fun _=>?_)
theorem spec_l3Marks.mono:∀ a0 a1 a2 k,LeO (spec_l3Marks.f k a0 a1 a2) (spec_l3Marks.f (k + 1) a0 a1 a2):=by
 intro a0 a1 a2 k
 obtain ⟨ih0,ih1⟩:=spec_l3Marks.mono_l k
 unfold spec_l3Marks.f
 repeat' first
   | (with_reducible exact ih0 _ _)
   | (with_reducible exact ih1 _ _)
   | (with_reducible exact LeO.refl _)
   | (with_reducible exact LeO.none _)
   | (with_reducible refine LeO.ite ?_ ?_)
   | (with_reducible refine LeO.bind ?_ (fun _=>?_))
   | exact ih0 _ _
   | exact ih1 _ _
   | exact LeO.none _
   | refine LeO.ite ?_ ?_
   | refine LeO.bind ?_ (fun _=>?_)
theorem spec_l3Marks.calls (k:Nat) (a0_0:Int) (a0_1:Int) (A1:Option Addr) (c1:Nat) (l1:List (S38)) (r:Bool) (w:World) (hr1:Kd.C k38 w A1 l1.length l1) (hc1:l1.length ≤ c1) (h:spec_l3Marks.f k a0_0 a0_1 l1 = some r) :
  Calls Try.prog 42 #[.agg #[.int .i64 a0_0,.int .i64 a0_1],.slice A1 l1.length c1] w fun e w'=>e = .returned (.bool r) ∧ Below w.heap.size w w':=by
 have hu27:=Try.underlying27
 have HR1:=zM hr1
 have HC1:=zM hc1
 clear hr1 hc1
 have HB:=zM (Below.refl w.heap.size w)
 have H:((spec_DriftOk.f a0_0 a0_1).bind fun t126=>(if t126 = true then ((spec_l1In.f (l1.length:Int) 1 201).bind fun t127=>(spec_l3Marks.j0 k l1 (!t127))) else (spec_l3Marks.j0 k l1 true))) = some r:=h
 clear h
 have HC3:=zM H
 clear H
 go_enter Try.func42,Try.ntmps42
 go_upto_region 1 with (first|((with_reducible refine gate_dst (N:=2) rfl ?_);(try (refine gate_guard (by rfl) ?_;dsimp only));refine box_event ?hg (N:=2) ?hd (cs:=#[.int .i64 a0_0,.int .i64 a0_1]) (t:=27) ?hr ?_;(case hd=>rfl);(case hg=>rfl);(case hr=>first|(go_simp;done)|(go_simp;rfl));intro gb125 hg w4 hbox hb;have n0_:=zM (bG (by repeat (first|(with_reducible first|exact HB.out|apply bE|apply bD|apply bF)|exact HB.out)) hb);have n1_:=zM (hbox);have n2_:=zM ((by rw [hg];exact (below_size (by repeat (first|(with_reducible first|exact HB.out|apply bE|apply bD|apply bF)|exact HB.out))):w.heap.size ≤ gb125));have n3_:=zM ((by rw [hg];exact (below_size (by repeat (first|(with_reducible first|exact HB.out|apply bE|apply bD|apply bF)|exact HB.out))):w.heap.size ≤ gb125));clear HB;have HB:=n0_;have BK125:=n1_;have GW125:=n2_;have GE125:=n3_;clear n0_ n1_ n2_ n3_;clear hb hbox hg))
 (try simp only [Act.put,zS,z0,z1])
 go_cut [14] (fun v14 wc=>∃ (kq:Nat) (x14_2:Bool),v14 = .bool x14_2 ∧ Aside0 (spec_l3Marks.j0 kq l1 x14_2 = some r) ∧ Aside0 (kq ≤ k) ∧ Aside0 (wc.heap[gb125]? = some (.cells #[.int .i64 a0_0,.int .i64 a0_1] 27 (0,0))) ∧ Aside0 (Below w.heap.size w wc))
 case first =>
  have H:=HC3.out
  clear HC3
  replace H:=zO H
  obtain ⟨t126,A50,H⟩:=H
  replace H:(if t126 = true then ((spec_l1In.f (l1.length:Int) 1 201).bind fun t127=>(spec_l3Marks.j0 k l1 (!t127))) else (spec_l3Marks.j0 k l1 true)) = some r:=H
  have A5:=zM A50
  clear A50
  by_cases c6:t126 = true
  ·subst c6
   have H1:((spec_l1In.f (l1.length:Int) 1 201).bind fun t127=>(spec_l3Marks.j0 k l1 (!t127))) = some r:=by rw [if_pos rfl] at H;exact H
   clear H
   have H:=H1
   clear H1
   replace H:=zO H
   obtain ⟨t127,A70,H⟩:=H
   replace H:(spec_l3Marks.j0 k l1 (!t127)) = some r:=H
   have A7:=zM A70
   clear A70
   have H':=zM H
   clear H
   have hcz8_0:w4.cell? ⟨gb125,0,none⟩ = some (.int .i64 a0_0):=(blk_cell BK125.out 0).trans rfl
   have hcz8_1:w4.cell? ⟨gb125,1,none⟩ = some (.int .i64 a0_1):=(blk_cell BK125.out 1).trans rfl
   have hfz8_0:=blk_frozen BK125.out 0
   have hfz8_1:=blk_frozen BK125.out 1
   go_wp2_with (first|((with_reducible refine gate_callee (f:=77) rfl ?_);refine goesL_ (some 7) rfl rfl Try.func77 (by kernel_rfl) rfl #[.agg #[.int .i64 a0_0,.int .i64 a0_1]] rfl (by (try simp only [List.map_toArray,List.map_cons,List.map_nil]);first|done|rfl) ?_;(with_reducible refine (spec_DriftOk.calls a0_0 a0_1 true _ A5.out).mono ?_);rintro e w9 ⟨rfl,hb⟩;refine ⟨_,rfl,?_⟩;have n0_:=zM (blk_below (g:=gb125) (o:=.cells #[.int .i64 a0_0,.int .i64 a0_1] 27 (0,0)) (by (with_reducible repeat (first|refine bA ?_ _|refine bB ?_|refine bC ?_ _));exact BK125.out) hb);have n1_:=zM (bG (by repeat (first|(with_reducible first|exact HB.out|apply bE|apply bD|apply bF|refine below_set ?_ GE125.out)|exact HB.out)) hb);clear BK125;clear HB;have BK125:=n0_;have HB:=n1_;clear n0_ n1_;(try clear hb);(try clear hk);(try clear hi))|(go_at_call 78;(with_reducible refine (spec_l1In.calls (l1.length:Int) 1 201 t127 _ A7.out).mono ?_);rintro e w' ⟨rfl,⟨nd,rfl⟩⟩))
   go_meet
   case rel=>exact ⟨_,(!t127),(by first|rfl|(simp;done)|(simp [*];done)),H',⟨by first|omega|exact Nat.le_refl _⟩,⟨by (with_reducible repeat (first|refine bA ?_ _|refine bB ?_|refine bC ?_ _));exact BK125.out⟩,⟨by repeat (first|(with_reducible first|exact HB.out|apply bE|apply bD|apply bF|refine below_set ?_ GE125.out)|exact HB.out)⟩⟩
  ·replace c6:=Bool.eq_false_iff.mpr c6
   subst c6
   have H1:(spec_l3Marks.j0 k l1 true) = some r:=by rw [if_neg (show ¬ (false = true) by decide)] at H;exact H
   clear H
   have H:=H1
   clear H1
   have H':=zM H
   clear H
   have hcz10_0:w4.cell? ⟨gb125,0,none⟩ = some (.int .i64 a0_0):=(blk_cell BK125.out 0).trans rfl
   have hcz10_1:w4.cell? ⟨gb125,1,none⟩ = some (.int .i64 a0_1):=(blk_cell BK125.out 1).trans rfl
   have hfz10_0:=blk_frozen BK125.out 0
   have hfz10_1:=blk_frozen BK125.out 1
   go_wp2_with (first|((with_reducible refine gate_callee (f:=77) rfl ?_);refine goesL_ (some 7) rfl rfl Try.func77 (by kernel_rfl) rfl #[.agg #[.int .i64 a0_0,.int .i64 a0_1]] rfl (by (try simp only [List.map_toArray,List.map_cons,List.map_nil]);first|done|rfl) ?_;(with_reducible refine (spec_DriftOk.calls a0_0 a0_1 false _ A5.out).mono ?_);rintro e w11 ⟨rfl,hb⟩;refine ⟨_,rfl,?_⟩;have n0_:=zM (blk_below (g:=gb125) (o:=.cells #[.int .i64 a0_0,.int .i64 a0_1] 27 (0,0)) (by (with_reducible repeat (first|refine bA ?_ _|refine bB ?_|refine bC ?_ _));exact BK125.out) hb);have n1_:=zM (bG (by repeat (first|(with_reducible first|exact HB.out|apply bE|apply bD|apply bF|refine below_set ?_ GE125.out)|exact HB.out)) hb);clear BK125;clear HB;have BK125:=n0_;have HB:=n1_;clear n0_ n1_;(try clear hb);(try clear hk);(try clear hi)))
   go_meet
   case rel=>exact ⟨_,(true),(by first|rfl|(simp;done)|(simp [*];done)),H',⟨by first|omega|exact Nat.le_refl _⟩,⟨by (with_reducible repeat (first|refine bA ?_ _|refine bB ?_|refine bC ?_ _));exact BK125.out⟩,⟨by repeat (first|(with_reducible first|exact HB.out|apply bE|apply bD|apply bF|refine below_set ?_ GE125.out)|exact HB.out)⟩⟩
 case rest =>
  clear HC3
  try clear c1
  try clear p2
  try clear c4
  try clear c6
  try clear c7
  try clear hcz10_0
  try clear hcz10_1
  try clear hcz8_0
  try clear hcz8_1
  try clear hfz10_0
  try clear hfz10_1
  try clear hfz8_0
  try clear hfz8_1
  obtain ⟨kq,x14_2,rfl,HA,HJ2,BK125,HB⟩:=hcut
  cases kq with
  | zero=>exact absurd HA.out (by simp [spec_l3Marks.j0])
  | succ kj2 =>
   have H:=HA.out
   clear HA
   simp only [spec_l3Marks.j0] at H
   by_cases c12:x14_2 = true
   ·subst c12
    have H1:(some false) = some r:=by rw [if_pos rfl] at H;exact H
    clear H
    have H:=H1
    clear H1
    obtain rfl:=Option.some.inj H
    simp only [zI,zJ] at H
    obtain ⟨rfl⟩:=H
    go_wp2
    go_ret
    exact ⟨by first|rfl|(simp [*,errW_none,errW_some] <;> rfl),by repeat (first|(with_reducible first|exact HB.out|apply bE|apply bD|apply bF|refine below_set ?_ GE125.out)|exact HB.out)⟩
   ·replace c12:=Bool.eq_false_iff.mpr c12
    subst c12
    have H1:(spec_l3Marks.l0 kj2 l1 0) = some r:=by rw [if_neg (show ¬ (false = true) by decide)] at H;exact H
    clear H
    have H:=H1
    clear H1
    have H':=zM H
    clear H
    go_wp2
    go_loopg [5] kj2 (fun kq v5 w'=>∃ (x5_2:Int),v5 = .int .i64 x5_2 ∧ Aside0 (spec_l3Marks.l0 kq l1 x5_2 = some r) ∧ Aside0 (kq ≤ kj2) ∧ Aside0 (w'.heap[gb125]? = some (.cells #[.int .i64 a0_0,.int .i64 a0_1] 27 (0,0))) ∧ Aside0 (Below w.heap.size w w'))
    case atStart=>exact ⟨(0),(by first|rfl|(simp;done)|(simp [*];done)),H',⟨Nat.le_refl _⟩,⟨by (with_reducible repeat (first|refine bA ?_ _|refine bB ?_|refine bC ?_ _));exact BK125.out⟩,⟨by repeat (first|(with_reducible first|exact HB.out|apply bE|apply bD|apply bF|refine below_set ?_ GE125.out)|exact HB.out)⟩⟩
    case round =>
     clear H'
     try clear c1
     try clear p2
     try clear c4
     try clear c6
     try clear c7
     try clear c12
     try clear hcz10_0
     try clear hcz10_1
     try clear hcz8_0
     try clear hcz8_1
     try clear hfz10_0
     try clear hfz10_1
     try clear hfz8_0
     try clear hfz8_1
     try clear p2
     obtain ⟨x5_2,rfl,HA,HK2,BK125,HB⟩:=hrel
     cases gk with
     | zero=>exact absurd HA.out (by simp [spec_l3Marks.l0])
     | succ k2 =>
      have H:=HA.out
      clear HA
      simp only [spec_l3Marks.l0] at H
      by_cases c13:x5_2 < (l1.length:Int)
      ·rw [if_pos c13] at H
       have c13b0:decide (x5_2 < (l1.length:Int)) = true:=decide_eq_true c13
       clear c13
       by_cases c14:0 ≤ x5_2
       ·rw [if_pos c14] at H
        have c14b0:decide (0 ≤ x5_2) = true:=decide_eq_true c14
        clear c14
        replace H:=zO H
        obtain ⟨t129,A150,H⟩:=H
        replace H:(if t129 = true then ((spec_l2Time.f ((rd_T38 l1 x5_2).f1)).bind fun t131=>(if t131 = true then (spec_l3Marks.l0 k2 l1 (wrap64 (x5_2 + 1))) else (some false))) else (some false)) = some r:=H
        have A15:=zM A150
        clear A150
        by_cases c16:t129 = true
        ·subst c16
         have H1:((spec_l2Time.f ((rd_T38 l1 x5_2).f1)).bind fun t131=>(if t131 = true then (spec_l3Marks.l0 k2 l1 (wrap64 (x5_2 + 1))) else (some false))) = some r:=by rw [if_pos rfl] at H;exact H
         clear H
         have H:=H1
         clear H1
         replace H:=zO H
         obtain ⟨t131,A170,H⟩:=H
         replace H:(if t131 = true then (spec_l3Marks.l0 k2 l1 (wrap64 (x5_2 + 1))) else (some false)) = some r:=H
         have A17:=zM A170
         clear A170
         by_cases c18:t131 = true
         ·subst c18
          have H1:(spec_l3Marks.l0 k2 l1 (wrap64 (x5_2 + 1))) = some r:=by rw [if_pos rfl] at H;exact H
          clear H
          have H:=H1
          clear H1
          have H':=zM H
          clear H
          have p128:0 ≤ (x5_2:Int):=of_decide_eq_true (by first|(with_reducible assumption)|assumption)
          have q128:x5_2 < (l1.length:Int):=of_decide_eq_true (by first|(with_reducible assumption)|assumption)
          obtain ⟨ad128,e128,hx128_0,hx128_1⟩:=at_T38 HR1.out x5_2 p128 q128
          cases e128
          replace hx128_0:=(HB.out.cell (World.block_lt_of_cell? w _ hx128_0)).trans hx128_0
          replace hx128_1:=(HB.out.cell (World.block_lt_of_cell? w _ hx128_1)).trans hx128_1
          replace p128:=eq_true p128
          replace q128:=eq_true q128
          go_wp2_with (first|((with_reducible refine gate_callee (f:=79) rfl ?_);refine goesL_ (some 26) rfl rfl Try.func79 (by kernel_rfl) rfl #[.int .i64 ((rd_T38 l1 x5_2).f0)] rfl (by (try simp only [List.map_toArray,List.map_cons,List.map_nil]);first|done|rfl) ?_;(with_reducible refine (spec_l2Time.calls ((rd_T38 l1 x5_2).f0) true _ A15.out).mono ?_);rintro e w' ⟨rfl,⟨nd,rfl⟩⟩;refine ⟨_,rfl,?_⟩;have p130:0 ≤ (x5_2:Int):=of_decide_eq_true (by first|(with_reducible assumption)|assumption);have q130:x5_2 < (l1.length:Int):=of_decide_eq_true (by first|(with_reducible assumption)|assumption);obtain ⟨ad130,e130,hx130_0,hx130_1⟩:=at_T38 HR1.out x5_2 p130 q130;obtain rfl:ad128 = ad130:=(by injection e130);replace hx130_0:=(HB.out.cell (World.block_lt_of_cell? w _ hx130_0)).trans hx130_0;replace hx130_1:=(HB.out.cell (World.block_lt_of_cell? w _ hx130_1)).trans hx130_1;replace p130:=eq_true p130;replace q130:=eq_true q130)|(go_at_call 79;(with_reducible refine (spec_l2Time.calls ((rd_T38 l1 x5_2).f1) true _ A17.out).mono ?_);rintro e w' ⟨rfl,⟨nd,rfl⟩⟩))
          go_roundg k2
          case measure=>have:=HJ2.out;have:=HK2.out;omega
          case rel=>exact ⟨(wrap64 (x5_2 + 1)),(by first|rfl|(simp;done)|(simp [*];done)),H',⟨by have:=HJ2.out;have:=HK2.out;omega⟩,⟨by (with_reducible repeat (first|refine bA ?_ _|refine bB ?_|refine bC ?_ _));exact BK125.out⟩,⟨by repeat (first|(with_reducible first|exact HB.out|apply bE|apply bD|apply bF|refine below_set ?_ GE125.out)|exact HB.out)⟩⟩
         ·replace c18:=Bool.eq_false_iff.mpr c18
          subst c18
          have H1:(some false) = some r:=by rw [if_neg (show ¬ (false = true) by decide)] at H;exact H
          clear H
          have H:=H1
          clear H1
          obtain rfl:=Option.some.inj H
          simp only [zI,zJ] at H
          obtain ⟨rfl⟩:=H
          have p128:0 ≤ (x5_2:Int):=of_decide_eq_true (by first|(with_reducible assumption)|assumption)
          have q128:x5_2 < (l1.length:Int):=of_decide_eq_true (by first|(with_reducible assumption)|assumption)
          obtain ⟨ad128,e128,hx128_0,hx128_1⟩:=at_T38 HR1.out x5_2 p128 q128
          cases e128
          replace hx128_0:=(HB.out.cell (World.block_lt_of_cell? w _ hx128_0)).trans hx128_0
          replace hx128_1:=(HB.out.cell (World.block_lt_of_cell? w _ hx128_1)).trans hx128_1
          replace p128:=eq_true p128
          replace q128:=eq_true q128
          go_wp2_with (first|((with_reducible refine gate_callee (f:=79) rfl ?_);refine goesL_ (some 26) rfl rfl Try.func79 (by kernel_rfl) rfl #[.int .i64 ((rd_T38 l1 x5_2).f0)] rfl (by (try simp only [List.map_toArray,List.map_cons,List.map_nil]);first|done|rfl) ?_;(with_reducible refine (spec_l2Time.calls ((rd_T38 l1 x5_2).f0) true _ A15.out).mono ?_);rintro e w' ⟨rfl,⟨nd,rfl⟩⟩;refine ⟨_,rfl,?_⟩;have p130:0 ≤ (x5_2:Int):=of_decide_eq_true (by first|(with_reducible assumption)|assumption);have q130:x5_2 < (l1.length:Int):=of_decide_eq_true (by first|(with_reducible assumption)|assumption);obtain ⟨ad130,e130,hx130_0,hx130_1⟩:=at_T38 HR1.out x5_2 p130 q130;obtain rfl:ad128 = ad130:=(by injection e130);replace hx130_0:=(HB.out.cell (World.block_lt_of_cell? w _ hx130_0)).trans hx130_0;replace hx130_1:=(HB.out.cell (World.block_lt_of_cell? w _ hx130_1)).trans hx130_1;replace p130:=eq_true p130;replace q130:=eq_true q130)|(go_at_call 79;(with_reducible refine (spec_l2Time.calls ((rd_T38 l1 x5_2).f1) false _ A17.out).mono ?_);rintro e w' ⟨rfl,⟨nd,rfl⟩⟩))
          go_ret
          exact ⟨by first|rfl|(simp [*,errW_none,errW_some] <;> rfl),by repeat (first|(with_reducible first|exact HB.out|apply bE|apply bD|apply bF|refine below_set ?_ GE125.out)|exact HB.out)⟩
        ·replace c16:=Bool.eq_false_iff.mpr c16
         subst c16
         have H1:(some false) = some r:=by rw [if_neg (show ¬ (false = true) by decide)] at H;exact H
         clear H
         have H:=H1
         clear H1
         obtain rfl:=Option.some.inj H
         simp only [zI,zJ] at H
         obtain ⟨rfl⟩:=H
         have p128:0 ≤ (x5_2:Int):=of_decide_eq_true (by first|(with_reducible assumption)|assumption)
         have q128:x5_2 < (l1.length:Int):=of_decide_eq_true (by first|(with_reducible assumption)|assumption)
         obtain ⟨ad128,e128,hx128_0,hx128_1⟩:=at_T38 HR1.out x5_2 p128 q128
         cases e128
         replace hx128_0:=(HB.out.cell (World.block_lt_of_cell? w _ hx128_0)).trans hx128_0
         replace hx128_1:=(HB.out.cell (World.block_lt_of_cell? w _ hx128_1)).trans hx128_1
         replace p128:=eq_true p128
         replace q128:=eq_true q128
         go_wp2_with (first|((with_reducible refine gate_callee (f:=79) rfl ?_);refine goesL_ (some 26) rfl rfl Try.func79 (by kernel_rfl) rfl #[.int .i64 ((rd_T38 l1 x5_2).f0)] rfl (by (try simp only [List.map_toArray,List.map_cons,List.map_nil]);first|done|rfl) ?_;(with_reducible refine (spec_l2Time.calls ((rd_T38 l1 x5_2).f0) false _ A15.out).mono ?_);rintro e w' ⟨rfl,⟨nd,rfl⟩⟩;refine ⟨_,rfl,?_⟩))
         go_ret
         exact ⟨by first|rfl|(simp [*,errW_none,errW_some] <;> rfl),by repeat (first|(with_reducible first|exact HB.out|apply bE|apply bD|apply bF|refine below_set ?_ GE125.out)|exact HB.out)⟩
       ·rw [if_neg c14] at H
        exact absurd H (by simp)
      ·rw [if_neg c13] at H
       have c13b0:decide (x5_2 < (l1.length:Int)) = false:=decide_eq_false c13
       clear c13
       obtain rfl:=Option.some.inj H
       simp only [zI,zJ] at H
       obtain ⟨rfl⟩:=H
       go_wp2
       go_ret
       exact ⟨by first|rfl|(simp [*,errW_none,errW_some] <;> rfl),by repeat (first|(with_reducible first|exact HB.out|apply bE|apply bD|apply bF|refine below_set ?_ GE125.out)|exact HB.out)⟩

/-! ### spec_MayCount: function 80 -/
def spec_MayCount.f (a0_0:Int) (a0_1:Int) (a1:Int) (a2:Int):Option (Bool):=(spec_DriftOk.f a0_0 a0_1).bind fun t133=>(if t133 = true then ((spec_l2Time.f a1).bind fun t134=>(if t134 = true then ((spec_l2Time.f a2).bind fun t135=>(if t135 = true then (if (wrap64 (a2 * a0_1)) ≥ (wrap64 (a1 * (wrap64 (a0_1 - a0_0)))) then (some (decide ((wrap64 (a2 * a0_1)) ≤ (wrap64 (a1 * (wrap64 (a0_1 + a0_0))))))) else (some false)) else (some false))) else (some false))) else (some false))
theorem spec_MayCount.calls (a0_0:Int) (a0_1:Int) (a1:Int) (a2:Int) (r:Bool) (w:World) (h:spec_MayCount.f a0_0 a0_1 a1 a2 = some r) :
  Calls Try.prog 80 #[.agg #[.int .i64 a0_0,.int .i64 a0_1],.int .i64 a1,.int .i64 a2] w fun e w'=>e = .returned (.bool r) ∧ Below w.heap.size w w':=by
 have hu27:=Try.underlying27
 have HB:=zM (Below.refl w.heap.size w)
 have H:((spec_DriftOk.f a0_0 a0_1).bind fun t133=>(if t133 = true then ((spec_l2Time.f a1).bind fun t134=>(if t134 = true then ((spec_l2Time.f a2).bind fun t135=>(if t135 = true then (if (wrap64 (a2 * a0_1)) ≥ (wrap64 (a1 * (wrap64 (a0_1 - a0_0)))) then (some (decide ((wrap64 (a2 * a0_1)) ≤ (wrap64 (a1 * (wrap64 (a0_1 + a0_0))))))) else (some false)) else (some false))) else (some false))) else (some false))) = some r:=h
 clear h
 replace H:=zO H
 obtain ⟨t133,A40,H⟩:=H
 replace H:(if t133 = true then ((spec_l2Time.f a1).bind fun t134=>(if t134 = true then ((spec_l2Time.f a2).bind fun t135=>(if t135 = true then (if (wrap64 (a2 * a0_1)) ≥ (wrap64 (a1 * (wrap64 (a0_1 - a0_0)))) then (some (decide ((wrap64 (a2 * a0_1)) ≤ (wrap64 (a1 * (wrap64 (a0_1 + a0_0))))))) else (some false)) else (some false))) else (some false))) else (some false)) = some r:=H
 have A4:=zM A40
 clear A40
 by_cases c5:t133 = true
 ·subst c5
  have H1:((spec_l2Time.f a1).bind fun t134=>(if t134 = true then ((spec_l2Time.f a2).bind fun t135=>(if t135 = true then (if (wrap64 (a2 * a0_1)) ≥ (wrap64 (a1 * (wrap64 (a0_1 - a0_0)))) then (some (decide ((wrap64 (a2 * a0_1)) ≤ (wrap64 (a1 * (wrap64 (a0_1 + a0_0))))))) else (some false)) else (some false))) else (some false))) = some r:=by rw [if_pos rfl] at H;exact H
  clear H
  have H:=H1
  clear H1
  replace H:=zO H
  obtain ⟨t134,A60,H⟩:=H
  replace H:(if t134 = true then ((spec_l2Time.f a2).bind fun t135=>(if t135 = true then (if (wrap64 (a2 * a0_1)) ≥ (wrap64 (a1 * (wrap64 (a0_1 - a0_0)))) then (some (decide ((wrap64 (a2 * a0_1)) ≤ (wrap64 (a1 * (wrap64 (a0_1 + a0_0))))))) else (some false)) else (some false))) else (some false)) = some r:=H
  have A6:=zM A60
  clear A60
  by_cases c7:t134 = true
  ·subst c7
   have H1:((spec_l2Time.f a2).bind fun t135=>(if t135 = true then (if (wrap64 (a2 * a0_1)) ≥ (wrap64 (a1 * (wrap64 (a0_1 - a0_0)))) then (some (decide ((wrap64 (a2 * a0_1)) ≤ (wrap64 (a1 * (wrap64 (a0_1 + a0_0))))))) else (some false)) else (some false))) = some r:=by rw [if_pos rfl] at H;exact H
   clear H
   have H:=H1
   clear H1
   replace H:=zO H
   obtain ⟨t135,A80,H⟩:=H
   replace H:(if t135 = true then (if (wrap64 (a2 * a0_1)) ≥ (wrap64 (a1 * (wrap64 (a0_1 - a0_0)))) then (some (decide ((wrap64 (a2 * a0_1)) ≤ (wrap64 (a1 * (wrap64 (a0_1 + a0_0))))))) else (some false)) else (some false)) = some r:=H
   have A8:=zM A80
   clear A80
   by_cases c9:t135 = true
   ·subst c9
    have H1:(if (wrap64 (a2 * a0_1)) ≥ (wrap64 (a1 * (wrap64 (a0_1 - a0_0)))) then (some (decide ((wrap64 (a2 * a0_1)) ≤ (wrap64 (a1 * (wrap64 (a0_1 + a0_0))))))) else (some false)) = some r:=by rw [if_pos rfl] at H;exact H
    clear H
    have H:=H1
    clear H1
    by_cases c10:(wrap64 (a2 * a0_1)) ≥ (wrap64 (a1 * (wrap64 (a0_1 - a0_0))))
    ·rw [if_pos c10] at H
     have c10b0:decide ((wrap64 (a1 * (wrap64 (a0_1 - a0_0)))) ≤ (wrap64 (a2 * a0_1))) = true:=decide_eq_true c10
     clear c10
     obtain rfl:=Option.some.inj H
     simp only [zI,zJ] at H
     obtain ⟨rfl⟩:=H
     go_enter Try.func80,Try.ntmps80
     go_wp2_with (first|((with_reducible refine gate_dst (N:=3) rfl ?_);refine box_event ?hg (N:=3) ?hd (cs:=#[.int .i64 a0_0,.int .i64 a0_1]) (t:=27) ?hr ?_;(case hd=>rfl);(case hg=>rfl);(case hr=>first|(go_simp;done)|(go_simp;rfl));intro gb132 hg w11 hbox hb;have n0_:=zM (bG (by repeat (first|(with_reducible first|exact HB.out|apply bE|apply bD|apply bF)|exact HB.out)) hb);have n1_:=zM (hbox);have n2_:=zM ((by rw [hg];exact (below_size (by repeat (first|(with_reducible first|exact HB.out|apply bE|apply bD|apply bF)|exact HB.out))):w.heap.size ≤ gb132));have n3_:=zM ((by rw [hg];exact (below_size (by repeat (first|(with_reducible first|exact HB.out|apply bE|apply bD|apply bF)|exact HB.out))):w.heap.size ≤ gb132));clear HB;have HB:=n0_;have BK132:=n1_;have GW132:=n2_;have GE132:=n3_;clear n0_ n1_ n2_ n3_;clear hb hbox hg;have hcz12_0:w11.cell? ⟨gb132,0,none⟩ = some (.int .i64 a0_0):=(blk_cell BK132.out 0).trans rfl;have hcz12_1:w11.cell? ⟨gb132,1,none⟩ = some (.int .i64 a0_1):=(blk_cell BK132.out 1).trans rfl;have hfz12_0:=blk_frozen BK132.out 0;have hfz12_1:=blk_frozen BK132.out 1)|((with_reducible refine gate_callee (f:=77) rfl ?_);refine goesL_ (some 8) rfl rfl Try.func77 (by kernel_rfl) rfl #[.agg #[.int .i64 a0_0,.int .i64 a0_1]] rfl (by (try simp only [List.map_toArray,List.map_cons,List.map_nil]);first|done|rfl) ?_;(with_reducible refine (spec_DriftOk.calls a0_0 a0_1 true _ A4.out).mono ?_);rintro e w13 ⟨rfl,hb⟩;refine ⟨_,rfl,?_⟩;have n0_:=zM (blk_below (g:=gb132) (o:=.cells #[.int .i64 a0_0,.int .i64 a0_1] 27 (0,0)) (by (with_reducible repeat (first|refine bA ?_ _|refine bB ?_|refine bC ?_ _));exact BK132.out) hb);have n1_:=zM (bG (by repeat (first|(with_reducible first|exact HB.out|apply bE|apply bD|apply bF|refine below_set ?_ GE132.out)|exact HB.out)) hb);clear BK132;clear HB;have BK132:=n0_;have HB:=n1_;clear n0_ n1_;(try clear hb);(try clear hk);(try clear hi))|(go_at_call 79;(with_reducible refine (spec_l2Time.calls a1 true _ A6.out).mono ?_);rintro e w' ⟨rfl,⟨nd,rfl⟩⟩)|(go_at_call 79;(with_reducible refine (spec_l2Time.calls a2 true _ A8.out).mono ?_);rintro e w' ⟨rfl,⟨nd,rfl⟩⟩;have hcz14_0:w13.cell? ⟨gb132,0,none⟩ = some (.int .i64 a0_0):=(blk_cell BK132.out 0).trans rfl;have hcz14_1:w13.cell? ⟨gb132,1,none⟩ = some (.int .i64 a0_1):=(blk_cell BK132.out 1).trans rfl;have hfz14_0:=blk_frozen BK132.out 0;have hfz14_1:=blk_frozen BK132.out 1))
     go_ret
     exact ⟨by first|rfl|(simp [*,errW_none,errW_some] <;> rfl),by repeat (first|(with_reducible first|exact HB.out|apply bE|apply bD|apply bF|refine below_set ?_ GE132.out)|exact HB.out)⟩
    ·rw [if_neg c10] at H
     have c10b0:decide ((wrap64 (a1 * (wrap64 (a0_1 - a0_0)))) ≤ (wrap64 (a2 * a0_1))) = false:=decide_eq_false c10
     clear c10
     obtain rfl:=Option.some.inj H
     simp only [zI,zJ] at H
     obtain ⟨rfl⟩:=H
     go_enter Try.func80,Try.ntmps80
     go_wp2_with (first|((with_reducible refine gate_dst (N:=3) rfl ?_);refine box_event ?hg (N:=3) ?hd (cs:=#[.int .i64 a0_0,.int .i64 a0_1]) (t:=27) ?hr ?_;(case hd=>rfl);(case hg=>rfl);(case hr=>first|(go_simp;done)|(go_simp;rfl));intro gb132 hg w15 hbox hb;have n0_:=zM (bG (by repeat (first|(with_reducible first|exact HB.out|apply bE|apply bD|apply bF)|exact HB.out)) hb);have n1_:=zM (hbox);have n2_:=zM ((by rw [hg];exact (below_size (by repeat (first|(with_reducible first|exact HB.out|apply bE|apply bD|apply bF)|exact HB.out))):w.heap.size ≤ gb132));have n3_:=zM ((by rw [hg];exact (below_size (by repeat (first|(with_reducible first|exact HB.out|apply bE|apply bD|apply bF)|exact HB.out))):w.heap.size ≤ gb132));clear HB;have HB:=n0_;have BK132:=n1_;have GW132:=n2_;have GE132:=n3_;clear n0_ n1_ n2_ n3_;clear hb hbox hg;have hcz16_0:w15.cell? ⟨gb132,0,none⟩ = some (.int .i64 a0_0):=(blk_cell BK132.out 0).trans rfl;have hcz16_1:w15.cell? ⟨gb132,1,none⟩ = some (.int .i64 a0_1):=(blk_cell BK132.out 1).trans rfl;have hfz16_0:=blk_frozen BK132.out 0;have hfz16_1:=blk_frozen BK132.out 1)|((with_reducible refine gate_callee (f:=77) rfl ?_);refine goesL_ (some 8) rfl rfl Try.func77 (by kernel_rfl) rfl #[.agg #[.int .i64 a0_0,.int .i64 a0_1]] rfl (by (try simp only [List.map_toArray,List.map_cons,List.map_nil]);first|done|rfl) ?_;(with_reducible refine (spec_DriftOk.calls a0_0 a0_1 true _ A4.out).mono ?_);rintro e w17 ⟨rfl,hb⟩;refine ⟨_,rfl,?_⟩;have n0_:=zM (blk_below (g:=gb132) (o:=.cells #[.int .i64 a0_0,.int .i64 a0_1] 27 (0,0)) (by (with_reducible repeat (first|refine bA ?_ _|refine bB ?_|refine bC ?_ _));exact BK132.out) hb);have n1_:=zM (bG (by repeat (first|(with_reducible first|exact HB.out|apply bE|apply bD|apply bF|refine below_set ?_ GE132.out)|exact HB.out)) hb);clear BK132;clear HB;have BK132:=n0_;have HB:=n1_;clear n0_ n1_;(try clear hb);(try clear hk);(try clear hi))|(go_at_call 79;(with_reducible refine (spec_l2Time.calls a1 true _ A6.out).mono ?_);rintro e w' ⟨rfl,⟨nd,rfl⟩⟩)|(go_at_call 79;(with_reducible refine (spec_l2Time.calls a2 true _ A8.out).mono ?_);rintro e w' ⟨rfl,⟨nd,rfl⟩⟩;have hcz18_0:w17.cell? ⟨gb132,0,none⟩ = some (.int .i64 a0_0):=(blk_cell BK132.out 0).trans rfl;have hcz18_1:w17.cell? ⟨gb132,1,none⟩ = some (.int .i64 a0_1):=(blk_cell BK132.out 1).trans rfl;have hfz18_0:=blk_frozen BK132.out 0;have hfz18_1:=blk_frozen BK132.out 1))
     go_ret
     exact ⟨by first|rfl|(simp [*,errW_none,errW_some] <;> rfl),by repeat (first|(with_reducible first|exact HB.out|apply bE|apply bD|apply bF|refine below_set ?_ GE132.out)|exact HB.out)⟩
   ·replace c9:=Bool.eq_false_iff.mpr c9
    subst c9
    have H1:(some false) = some r:=by rw [if_neg (show ¬ (false = true) by decide)] at H;exact H
    clear H
    have H:=H1
    clear H1
    obtain rfl:=Option.some.inj H
    simp only [zI,zJ] at H
    obtain ⟨rfl⟩:=H
    go_enter Try.func80,Try.ntmps80
    go_wp2_with (first|((with_reducible refine gate_dst (N:=3) rfl ?_);refine box_event ?hg (N:=3) ?hd (cs:=#[.int .i64 a0_0,.int .i64 a0_1]) (t:=27) ?hr ?_;(case hd=>rfl);(case hg=>rfl);(case hr=>first|(go_simp;done)|(go_simp;rfl));intro gb132 hg w19 hbox hb;have n0_:=zM (bG (by repeat (first|(with_reducible first|exact HB.out|apply bE|apply bD|apply bF)|exact HB.out)) hb);have n1_:=zM (hbox);have n2_:=zM ((by rw [hg];exact (below_size (by repeat (first|(with_reducible first|exact HB.out|apply bE|apply bD|apply bF)|exact HB.out))):w.heap.size ≤ gb132));have n3_:=zM ((by rw [hg];exact (below_size (by repeat (first|(with_reducible first|exact HB.out|apply bE|apply bD|apply bF)|exact HB.out))):w.heap.size ≤ gb132));clear HB;have HB:=n0_;have BK132:=n1_;have GW132:=n2_;have GE132:=n3_;clear n0_ n1_ n2_ n3_;clear hb hbox hg;have hcz20_0:w19.cell? ⟨gb132,0,none⟩ = some (.int .i64 a0_0):=(blk_cell BK132.out 0).trans rfl;have hcz20_1:w19.cell? ⟨gb132,1,none⟩ = some (.int .i64 a0_1):=(blk_cell BK132.out 1).trans rfl;have hfz20_0:=blk_frozen BK132.out 0;have hfz20_1:=blk_frozen BK132.out 1)|((with_reducible refine gate_callee (f:=77) rfl ?_);refine goesL_ (some 8) rfl rfl Try.func77 (by kernel_rfl) rfl #[.agg #[.int .i64 a0_0,.int .i64 a0_1]] rfl (by (try simp only [List.map_toArray,List.map_cons,List.map_nil]);first|done|rfl) ?_;(with_reducible refine (spec_DriftOk.calls a0_0 a0_1 true _ A4.out).mono ?_);rintro e w21 ⟨rfl,hb⟩;refine ⟨_,rfl,?_⟩;have n0_:=zM (blk_below (g:=gb132) (o:=.cells #[.int .i64 a0_0,.int .i64 a0_1] 27 (0,0)) (by (with_reducible repeat (first|refine bA ?_ _|refine bB ?_|refine bC ?_ _));exact BK132.out) hb);have n1_:=zM (bG (by repeat (first|(with_reducible first|exact HB.out|apply bE|apply bD|apply bF|refine below_set ?_ GE132.out)|exact HB.out)) hb);clear BK132;clear HB;have BK132:=n0_;have HB:=n1_;clear n0_ n1_;(try clear hb);(try clear hk);(try clear hi))|(go_at_call 79;(with_reducible refine (spec_l2Time.calls a1 true _ A6.out).mono ?_);rintro e w' ⟨rfl,⟨nd,rfl⟩⟩)|(go_at_call 79;(with_reducible refine (spec_l2Time.calls a2 false _ A8.out).mono ?_);rintro e w' ⟨rfl,⟨nd,rfl⟩⟩))
    go_ret
    exact ⟨by first|rfl|(simp [*,errW_none,errW_some] <;> rfl),by repeat (first|(with_reducible first|exact HB.out|apply bE|apply bD|apply bF|refine below_set ?_ GE132.out)|exact HB.out)⟩
  ·replace c7:=Bool.eq_false_iff.mpr c7
   subst c7
   have H1:(some false) = some r:=by rw [if_neg (show ¬ (false = true) by decide)] at H;exact H
   clear H
   have H:=H1
   clear H1
   obtain rfl:=Option.some.inj H
   simp only [zI,zJ] at H
   obtain ⟨rfl⟩:=H
   go_enter Try.func80,Try.ntmps80
   go_wp2_with (first|((with_reducible refine gate_dst (N:=3) rfl ?_);refine box_event ?hg (N:=3) ?hd (cs:=#[.int .i64 a0_0,.int .i64 a0_1]) (t:=27) ?hr ?_;(case hd=>rfl);(case hg=>rfl);(case hr=>first|(go_simp;done)|(go_simp;rfl));intro gb132 hg w22 hbox hb;have n0_:=zM (bG (by repeat (first|(with_reducible first|exact HB.out|apply bE|apply bD|apply bF)|exact HB.out)) hb);have n1_:=zM (hbox);have n2_:=zM ((by rw [hg];exact (below_size (by repeat (first|(with_reducible first|exact HB.out|apply bE|apply bD|apply bF)|exact HB.out))):w.heap.size ≤ gb132));have n3_:=zM ((by rw [hg];exact (below_size (by repeat (first|(with_reducible first|exact HB.out|apply bE|apply bD|apply bF)|exact HB.out))):w.heap.size ≤ gb132));clear HB;have HB:=n0_;have BK132:=n1_;have GW132:=n2_;have GE132:=n3_;clear n0_ n1_ n2_ n3_;clear hb hbox hg;have hcz23_0:w22.cell? ⟨gb132,0,none⟩ = some (.int .i64 a0_0):=(blk_cell BK132.out 0).trans rfl;have hcz23_1:w22.cell? ⟨gb132,1,none⟩ = some (.int .i64 a0_1):=(blk_cell BK132.out 1).trans rfl;have hfz23_0:=blk_frozen BK132.out 0;have hfz23_1:=blk_frozen BK132.out 1)|((with_reducible refine gate_callee (f:=77) rfl ?_);refine goesL_ (some 8) rfl rfl Try.func77 (by kernel_rfl) rfl #[.agg #[.int .i64 a0_0,.int .i64 a0_1]] rfl (by (try simp only [List.map_toArray,List.map_cons,List.map_nil]);first|done|rfl) ?_;(with_reducible refine (spec_DriftOk.calls a0_0 a0_1 true _ A4.out).mono ?_);rintro e w24 ⟨rfl,hb⟩;refine ⟨_,rfl,?_⟩;have n0_:=zM (blk_below (g:=gb132) (o:=.cells #[.int .i64 a0_0,.int .i64 a0_1] 27 (0,0)) (by (with_reducible repeat (first|refine bA ?_ _|refine bB ?_|refine bC ?_ _));exact BK132.out) hb);have n1_:=zM (bG (by repeat (first|(with_reducible first|exact HB.out|apply bE|apply bD|apply bF|refine below_set ?_ GE132.out)|exact HB.out)) hb);clear BK132;clear HB;have BK132:=n0_;have HB:=n1_;clear n0_ n1_;(try clear hb);(try clear hk);(try clear hi))|(go_at_call 79;(with_reducible refine (spec_l2Time.calls a1 false _ A6.out).mono ?_);rintro e w' ⟨rfl,⟨nd,rfl⟩⟩))
   go_ret
   exact ⟨by first|rfl|(simp [*,errW_none,errW_some] <;> rfl),by repeat (first|(with_reducible first|exact HB.out|apply bE|apply bD|apply bF|refine below_set ?_ GE132.out)|exact HB.out)⟩
 ·replace c5:=Bool.eq_false_iff.mpr c5
  subst c5
  have H1:(some false) = some r:=by rw [if_neg (show ¬ (false = true) by decide)] at H;exact H
  clear H
  have H:=H1
  clear H1
  obtain rfl:=Option.some.inj H
  simp only [zI,zJ] at H
  obtain ⟨rfl⟩:=H
  go_enter Try.func80,Try.ntmps80
  go_wp2_with (first|((with_reducible refine gate_dst (N:=3) rfl ?_);refine box_event ?hg (N:=3) ?hd (cs:=#[.int .i64 a0_0,.int .i64 a0_1]) (t:=27) ?hr ?_;(case hd=>rfl);(case hg=>rfl);(case hr=>first|(go_simp;done)|(go_simp;rfl));intro gb132 hg w25 hbox hb;have n0_:=zM (bG (by repeat (first|(with_reducible first|exact HB.out|apply bE|apply bD|apply bF)|exact HB.out)) hb);have n1_:=zM (hbox);have n2_:=zM ((by rw [hg];exact (below_size (by repeat (first|(with_reducible first|exact HB.out|apply bE|apply bD|apply bF)|exact HB.out))):w.heap.size ≤ gb132));have n3_:=zM ((by rw [hg];exact (below_size (by repeat (first|(with_reducible first|exact HB.out|apply bE|apply bD|apply bF)|exact HB.out))):w.heap.size ≤ gb132));clear HB;have HB:=n0_;have BK132:=n1_;have GW132:=n2_;have GE132:=n3_;clear n0_ n1_ n2_ n3_;clear hb hbox hg;have hcz26_0:w25.cell? ⟨gb132,0,none⟩ = some (.int .i64 a0_0):=(blk_cell BK132.out 0).trans rfl;have hcz26_1:w25.cell? ⟨gb132,1,none⟩ = some (.int .i64 a0_1):=(blk_cell BK132.out 1).trans rfl;have hfz26_0:=blk_frozen BK132.out 0;have hfz26_1:=blk_frozen BK132.out 1)|((with_reducible refine gate_callee (f:=77) rfl ?_);refine goesL_ (some 8) rfl rfl Try.func77 (by kernel_rfl) rfl #[.agg #[.int .i64 a0_0,.int .i64 a0_1]] rfl (by (try simp only [List.map_toArray,List.map_cons,List.map_nil]);first|done|rfl) ?_;(with_reducible refine (spec_DriftOk.calls a0_0 a0_1 false _ A4.out).mono ?_);rintro e w27 ⟨rfl,hb⟩;refine ⟨_,rfl,?_⟩;have n0_:=zM (blk_below (g:=gb132) (o:=.cells #[.int .i64 a0_0,.int .i64 a0_1] 27 (0,0)) (by (with_reducible repeat (first|refine bA ?_ _|refine bB ?_|refine bC ?_ _));exact BK132.out) hb);have n1_:=zM (bG (by repeat (first|(with_reducible first|exact HB.out|apply bE|apply bD|apply bF|refine below_set ?_ GE132.out)|exact HB.out)) hb);clear BK132;clear HB;have BK132:=n0_;have HB:=n1_;clear n0_ n1_;(try clear hb);(try clear hk);(try clear hi)))
  go_ret
  exact ⟨by first|rfl|(simp [*,errW_none,errW_some] <;> rfl),by repeat (first|(with_reducible first|exact HB.out|apply bE|apply bD|apply bF|refine below_set ?_ GE132.out)|exact HB.out)⟩

/-! ### spec_l3Two: function 43 -/
def spec_l3Two.f (a0_0:Int) (a0_1:Int) (a1_0:Int) (a1_1:Int) (a2_0:Int) (a2_1:Int):Option (Bool):=(spec_MayCount.f a0_0 a0_1 (wrap64 (a2_0 - a1_0)) (wrap64 (a2_1 - a1_1))).bind fun t139=>(some t139)
theorem spec_l3Two.calls (a0_0:Int) (a0_1:Int) (a1_0:Int) (a1_1:Int) (a2_0:Int) (a2_1:Int) (r:Bool) (w:World) (h:spec_l3Two.f a0_0 a0_1 a1_0 a1_1 a2_0 a2_1 = some r) :
  Calls Try.prog 43 #[.agg #[.int .i64 a0_0,.int .i64 a0_1],.agg #[.int .i64 a1_0,.int .i64 a1_1],.agg #[.int .i64 a2_0,.int .i64 a2_1]] w fun e w'=>e = .returned (.bool r) ∧ Below w.heap.size w w':=by
 have hu27:=Try.underlying27
 have hu38:=Try.underlying38
 have HB:=zM (Below.refl w.heap.size w)
 have H:((spec_MayCount.f a0_0 a0_1 (wrap64 (a2_0 - a1_0)) (wrap64 (a2_1 - a1_1))).bind fun t139=>(some t139)) = some r:=h
 clear h
 replace H:=zO H
 obtain ⟨t139,A40,H⟩:=H
 replace H:(some t139) = some r:=H
 have A4:=zM A40
 clear A40
 obtain rfl:=Option.some.inj H
 simp only [zI,zJ] at H
 obtain ⟨rfl⟩:=H
 go_enter Try.func43,Try.ntmps43
 go_wp2_with (first|((with_reducible refine gate_dst (N:=3) rfl ?_);refine box_event ?hg (N:=3) ?hd (cs:=#[.int .i64 a0_0,.int .i64 a0_1]) (t:=27) ?hr ?_;(case hd=>rfl);(case hg=>rfl);(case hr=>first|(go_simp;done)|(go_simp;rfl));intro gb136 hg w5 hbox hb;have n0_:=zM (bG (by repeat (first|(with_reducible first|exact HB.out|apply bE|apply bD|apply bF)|exact HB.out)) hb);have n1_:=zM (hbox);have n2_:=zM ((by rw [hg];exact (below_size (by repeat (first|(with_reducible first|exact HB.out|apply bE|apply bD|apply bF)|exact HB.out))):w.heap.size ≤ gb136));have n3_:=zM ((by rw [hg];exact (below_size (by repeat (first|(with_reducible first|exact HB.out|apply bE|apply bD|apply bF)|exact HB.out))):w.heap.size ≤ gb136));clear HB;have HB:=n0_;have BK136:=n1_;have GW136:=n2_;have GE136:=n3_;clear n0_ n1_ n2_ n3_;clear hb hbox hg)|((with_reducible refine gate_dst (N:=4) rfl ?_);refine box_event ?hg (N:=4) ?hd (cs:=#[.int .i64 a1_0,.int .i64 a1_1]) (t:=38) ?hr ?_;(case hd=>rfl);(case hg=>rfl);(case hr=>first|(go_simp;done)|(go_simp;rfl));intro gb137 hg w6 hbox hb;have n0_:=zM (blk_below (g:=gb136) (o:=.cells #[.int .i64 a0_0,.int .i64 a0_1] 27 (0,0)) (by (with_reducible repeat (first|refine bA ?_ _|refine bB ?_|refine bC ?_ _));exact BK136.out) hb);have n1_:=zM (bG (by repeat (first|(with_reducible first|exact HB.out|apply bE|apply bD|apply bF|refine below_set ?_ GE136.out)|exact HB.out)) hb);have n2_:=zM (hbox);have n3_:=zM ((by rw [hg];exact (below_size (by repeat (first|(with_reducible first|exact HB.out|apply bE|apply bD|apply bF|refine below_set ?_ GE136.out)|exact HB.out))):w.heap.size ≤ gb137));have n4_:=zM ((by rw [hg];exact (below_size (by repeat (first|(with_reducible first|exact HB.out|apply bE|apply bD|apply bF|refine below_set ?_ GE136.out)|exact HB.out))):w.heap.size ≤ gb137));have n5_:=zM ((by rw [hg];exact Nat.ne_of_lt (blk_lt (g:=gb136) (o:=.cells #[.int .i64 a0_0,.int .i64 a0_1] 27 (0,0)) (by (with_reducible repeat (first|refine bA ?_ _|refine bB ?_|refine bC ?_ _));exact BK136.out)):gb136 ≠ gb137));have n6_:=zM ((by rw [hg];exact Nat.ne_of_gt (blk_lt (g:=gb136) (o:=.cells #[.int .i64 a0_0,.int .i64 a0_1] 27 (0,0)) (by (with_reducible repeat (first|refine bA ?_ _|refine bB ?_|refine bC ?_ _));exact BK136.out)):gb137 ≠ gb136));clear BK136;clear HB;have BK136:=n0_;have HB:=n1_;have BK137:=n2_;have GW137:=n3_;have GE137:=n4_;have NB136_137:=n5_;have NB137_136:=n6_;clear n0_ n1_ n2_ n3_ n4_ n5_ n6_;clear hb hbox hg)|((with_reducible refine gate_dst (N:=5) rfl ?_);refine box_event ?hg (N:=5) ?hd (cs:=#[.int .i64 a2_0,.int .i64 a2_1]) (t:=38) ?hr ?_;(case hd=>rfl);(case hg=>rfl);(case hr=>first|(go_simp;done)|(go_simp;rfl));intro gb138 hg w7 hbox hb;have n0_:=zM (blk_below (g:=gb136) (o:=.cells #[.int .i64 a0_0,.int .i64 a0_1] 27 (0,0)) (by (with_reducible repeat (first|refine bA ?_ _|refine bB ?_|refine bC ?_ _));exact BK136.out) hb);have n1_:=zM (blk_below (g:=gb137) (o:=.cells #[.int .i64 a1_0,.int .i64 a1_1] 38 (0,0)) (by (with_reducible repeat (first|refine bA ?_ _|refine bB ?_|refine bC ?_ _));exact BK137.out) hb);have n2_:=zM (bG (by repeat (first|(with_reducible first|exact HB.out|apply bE|apply bD|apply bF|refine below_set ?_ GE136.out|refine below_set ?_ GE137.out)|exact HB.out)) hb);have n3_:=zM (hbox);have n4_:=zM ((by rw [hg];exact (below_size (by repeat (first|(with_reducible first|exact HB.out|apply bE|apply bD|apply bF|refine below_set ?_ GE136.out|refine below_set ?_ GE137.out)|exact HB.out))):w.heap.size ≤ gb138));have n5_:=zM ((by rw [hg];exact (below_size (by repeat (first|(with_reducible first|exact HB.out|apply bE|apply bD|apply bF|refine below_set ?_ GE136.out|refine below_set ?_ GE137.out)|exact HB.out))):w.heap.size ≤ gb138));have n6_:=zM ((by rw [hg];exact Nat.ne_of_lt (blk_lt (g:=gb136) (o:=.cells #[.int .i64 a0_0,.int .i64 a0_1] 27 (0,0)) (by (with_reducible repeat (first|refine bA ?_ _|refine bB ?_|refine bC ?_ _));exact BK136.out)):gb136 ≠ gb138));have n7_:=zM ((by rw [hg];exact Nat.ne_of_gt (blk_lt (g:=gb136) (o:=.cells #[.int .i64 a0_0,.int .i64 a0_1] 27 (0,0)) (by (with_reducible repeat (first|refine bA ?_ _|refine bB ?_|refine bC ?_ _));exact BK136.out)):gb138 ≠ gb136));have n8_:=zM ((by rw [hg];exact Nat.ne_of_lt (blk_lt (g:=gb137) (o:=.cells #[.int .i64 a1_0,.int .i64 a1_1] 38 (0,0)) (by (with_reducible repeat (first|refine bA ?_ _|refine bB ?_|refine bC ?_ _));exact BK137.out)):gb137 ≠ gb138));have n9_:=zM ((by rw [hg];exact Nat.ne_of_gt (blk_lt (g:=gb137) (o:=.cells #[.int .i64 a1_0,.int .i64 a1_1] 38 (0,0)) (by (with_reducible repeat (first|refine bA ?_ _|refine bB ?_|refine bC ?_ _));exact BK137.out)):gb138 ≠ gb137));clear BK136;clear BK137;clear HB;have BK136:=n0_;have BK137:=n1_;have HB:=n2_;have BK138:=n3_;have GW138:=n4_;have GE138:=n5_;have NB136_138:=n6_;have NB138_136:=n7_;have NB137_138:=n8_;have NB138_137:=n9_;clear n0_ n1_ n2_ n3_ n4_ n5_ n6_ n7_ n8_ n9_;clear hb hbox hg;have hnb8:=NB136_137.out;have hnc8:=NB137_136.out;have hnb9:=NB136_138.out;have hnc9:=NB138_136.out;have hcz10_0:w7.cell? ⟨gb136,0,none⟩ = some (.int .i64 a0_0):=(blk_cell BK136.out 0).trans rfl;have hcz10_1:w7.cell? ⟨gb136,1,none⟩ = some (.int .i64 a0_1):=(blk_cell BK136.out 1).trans rfl;have hfz10_0:=blk_frozen BK136.out 0;have hfz10_1:=blk_frozen BK136.out 1;have hnb11:=NB138_137.out;have hnc11:=NB137_138.out;have hcz12_0:w7.cell? ⟨gb138,0,none⟩ = some (.int .i64 a2_0):=(blk_cell BK138.out 0).trans rfl;have hcz12_1:w7.cell? ⟨gb138,1,none⟩ = some (.int .i64 a2_1):=(blk_cell BK138.out 1).trans rfl;have hfz12_0:=blk_frozen BK138.out 0;have hfz12_1:=blk_frozen BK138.out 1;have hcz13_0:w7.cell? ⟨gb137,0,none⟩ = some (.int .i64 a1_0):=(blk_cell BK137.out 0).trans rfl;have hcz13_1:w7.cell? ⟨gb137,1,none⟩ = some (.int .i64 a1_1):=(blk_cell BK137.out 1).trans rfl;have hfz13_0:=blk_frozen BK137.out 0;have hfz13_1:=blk_frozen BK137.out 1)|((with_reducible refine gate_callee (f:=80) rfl ?_);refine goesL_ (some 18) rfl rfl Try.func80 (by kernel_rfl) rfl #[.agg #[.int .i64 a0_0,.int .i64 a0_1],.int .i64 (wrap64 (a2_0 - a1_0)),.int .i64 (wrap64 (a2_1 - a1_1))] rfl (by (try simp only [List.map_toArray,List.map_cons,List.map_nil]);first|done|rfl) ?_;(with_reducible refine (spec_MayCount.calls a0_0 a0_1 (wrap64 (a2_0 - a1_0)) (wrap64 (a2_1 - a1_1)) t139 _ A4.out).mono ?_);rintro e w14 ⟨rfl,hb⟩;refine ⟨_,rfl,?_⟩;have n0_:=zM (blk_below (g:=gb136) (o:=.cells #[.int .i64 a0_0,.int .i64 a0_1] 27 (0,0)) (by (with_reducible repeat (first|refine bA ?_ _|refine bB ?_|refine bC ?_ _));exact BK136.out) hb);have n1_:=zM (blk_below (g:=gb137) (o:=.cells #[.int .i64 a1_0,.int .i64 a1_1] 38 (0,0)) (by (with_reducible repeat (first|refine bA ?_ _|refine bB ?_|refine bC ?_ _));exact BK137.out) hb);have n2_:=zM (blk_below (g:=gb138) (o:=.cells #[.int .i64 a2_0,.int .i64 a2_1] 38 (0,0)) (by (with_reducible repeat (first|refine bA ?_ _|refine bB ?_|refine bC ?_ _));exact BK138.out) hb);have n3_:=zM (bG (by repeat (first|(with_reducible first|exact HB.out|apply bE|apply bD|apply bF|refine below_set ?_ GE136.out|refine below_set ?_ GE137.out|refine below_set ?_ GE138.out)|exact HB.out)) hb);clear BK136;clear BK137;clear BK138;clear HB;have BK136:=n0_;have BK137:=n1_;have BK138:=n2_;have HB:=n3_;clear n0_ n1_ n2_ n3_;(try clear hb);(try clear hk);(try clear hi)))
 go_ret
 exact ⟨by first|rfl|(simp [*,errW_none,errW_some] <;> rfl),by repeat (first|(with_reducible first|exact HB.out|apply bE|apply bD|apply bF|refine below_set ?_ GE136.out|refine below_set ?_ GE137.out|refine below_set ?_ GE138.out)|exact HB.out)⟩

/-! ### spec_MarksOk: function 13 -/
def spec_MarksOk.l0:Nat → List (S38) → Int → Int → Int → Option (Bool)
 | 0,_,_,_,_=>none
 | k + 1,x1,x5,x141000,x141001=>if x5 < (x1.length:Int) then (if 0 ≤ (wrap64 (x5 - 1)) then (if (wrap64 (x5 - 1)) < (x1.length:Int) then (if 0 ≤ x5 then ((spec_l3Two.f x141000 x141001 ((rd_T38 x1 (wrap64 (x5 - 1))).f0) ((rd_T38 x1 (wrap64 (x5 - 1))).f1) ((rd_T38 x1 x5).f0) ((rd_T38 x1 x5).f1)).bind fun t144=>(if t144 = true then (spec_MarksOk.l0 k x1 (wrap64 (x5 + 1)) x141000 x141001) else (some false))) else (none)) else (none)) else (none)) else (some true)
def spec_MarksOk.f (k:Nat) (a0_0:Int) (a0_1:Int) (l1:List (S38)):Option (Bool):=(spec_l3Marks.f k a0_0 a0_1 l1).bind fun t141=>(if t141 = true then (spec_MarksOk.l0 k l1 1 a0_0 a0_1) else (some false))
theorem spec_MarksOk.mono_l:∀ k,(∀ y0 y1 y2 y3,LeO (spec_MarksOk.l0 k y0 y1 y2 y3) (spec_MarksOk.l0 (k + 1) y0 y1 y2 y3))
 | 0=>fun _ _ _ _ r h=>by simp [spec_MarksOk.l0] at h
 | k + 1=>by
  have ih0:=spec_MarksOk.mono_l k
  ·intro y0 y1 y2 y3
   unfold spec_MarksOk.l0
   repeat' first
   | (with_reducible exact ih0 _ _ _ _)
   | (with_reducible exact spec_l3Marks.mono _ _ _ _)
   | (with_reducible exact LeO.refl _)
   | (with_reducible exact LeO.none _)
   | (with_reducible refine LeO.ite ?_ ?_)
   | (with_reducible refine LeO.bind ?_ (fun _=>?_))
   | exact ih0 _ _ _ _
   | exact spec_l3Marks.mono _ _ _ _
   | exact LeO.none _
   | refine LeO.ite ?_ ?_
   | refine LeO.bind ?_ (fun _=>?_)
theorem spec_MarksOk.mono:∀ a0 a1 a2 k,LeO (spec_MarksOk.f k a0 a1 a2) (spec_MarksOk.f (k + 1) a0 a1 a2):=by
 intro a0 a1 a2 k
 have ih0:=spec_MarksOk.mono_l k
 unfold spec_MarksOk.f
 repeat' first
   | (with_reducible exact ih0 _ _ _ _)
   | (with_reducible exact spec_l3Marks.mono _ _ _ _)
   | (with_reducible exact LeO.refl _)
   | (with_reducible exact LeO.none _)
   | (with_reducible refine LeO.ite ?_ ?_)
   | (with_reducible refine LeO.bind ?_ (fun _=>?_))
   | exact ih0 _ _ _ _
   | exact spec_l3Marks.mono _ _ _ _
   | exact LeO.none _
   | refine LeO.ite ?_ ?_
   | refine LeO.bind ?_ (fun _=>?_)
def spec_MarksOk.T6:Bool × List (List Nat × List Nat):=(true,[([],[]),([],[]),([],[]),([2],[2]),([1,3],[1,3]),([4],[4]),([],[]),([],[]),([6,7],[6,7]),([8],[8]),([0,5,9],[0,5,9]),([10],[10])])
def spec_MarksOk.B6:List Nat:=[0,0,0,4,14,30,0,0,192,448,1023,2047]
theorem spec_MarksOk.tab6:rtab .any (opsOf Try.f13 6) = spec_MarksOk.T6:=by kernel_rfl
theorem spec_MarksOk.bits6:waitsOk spec_MarksOk.T6.2 spec_MarksOk.B6 = true:=by kernel_rfl
theorem spec_MarksOk.calls (k:Nat) (a0_0:Int) (a0_1:Int) (A1:Option Addr) (c1:Nat) (l1:List (S38)) (r:Bool) (w:World) (hr1:Kd.C k38 w A1 l1.length l1) (hc1:l1.length ≤ c1) (h:spec_MarksOk.f k a0_0 a0_1 l1 = some r) :
  Calls Try.prog 13 #[.agg #[.int .i64 a0_0,.int .i64 a0_1],.slice A1 l1.length c1] w fun e w'=>e = .returned (.bool r) ∧ Below w.heap.size w w':=by
 have hu27:=Try.underlying27
 have hu38:=Try.underlying38
 have HR1:=zM hr1
 have HC1:=zM hc1
 clear hr1 hc1
 have HB:=zM (Below.refl w.heap.size w)
 have H:((spec_l3Marks.f k a0_0 a0_1 l1).bind fun t141=>(if t141 = true then (spec_MarksOk.l0 k l1 1 a0_0 a0_1) else (some false))) = some r:=h
 clear h
 replace H:=zO H
 obtain ⟨t141,A30,H⟩:=H
 replace H:(if t141 = true then (spec_MarksOk.l0 k l1 1 a0_0 a0_1) else (some false)) = some r:=H
 have A3:=zM A30
 clear A30
 by_cases c4:t141 = true
 ·subst c4
  have H1:(spec_MarksOk.l0 k l1 1 a0_0 a0_1) = some r:=by rw [if_pos rfl] at H;exact H
  clear H
  have H:=H1
  clear H1
  have H':=zM H
  clear H
  go_enter Try.func13,Try.ntmps13
  go_wp2_with (first|((with_reducible refine gate_dst (N:=2) rfl ?_);refine box_event ?hg (N:=2) ?hd (cs:=#[.int .i64 a0_0,.int .i64 a0_1]) (t:=27) ?hr ?_;(case hd=>rfl);(case hg=>rfl);(case hr=>first|(go_simp;done)|(go_simp;rfl));intro gb140 hg w5 hbox hb;have n0_:=zM (bG (by repeat (first|(with_reducible first|exact HB.out|apply bE|apply bD|apply bF)|exact HB.out)) hb);have n1_:=zM (hbox);have n2_:=zM ((by rw [hg];exact (below_size (by repeat (first|(with_reducible first|exact HB.out|apply bE|apply bD|apply bF)|exact HB.out))):w.heap.size ≤ gb140));have n3_:=zM ((by rw [hg];exact (below_size (by repeat (first|(with_reducible first|exact HB.out|apply bE|apply bD|apply bF)|exact HB.out))):w.heap.size ≤ gb140));clear HB;have HB:=n0_;have BK140:=n1_;have GW140:=n2_;have GE140:=n3_;clear n0_ n1_ n2_ n3_;clear hb hbox hg;have hcz6_0:w5.cell? ⟨gb140,0,none⟩ = some (.int .i64 a0_0):=(blk_cell BK140.out 0).trans rfl;have hcz6_1:w5.cell? ⟨gb140,1,none⟩ = some (.int .i64 a0_1):=(blk_cell BK140.out 1).trans rfl;have hfz6_0:=blk_frozen BK140.out 0;have hfz6_1:=blk_frozen BK140.out 1)|((with_reducible refine gate_callee (f:=42) rfl ?_);refine goesL_ (some 8) rfl rfl Try.func42 (by kernel_rfl) rfl #[.agg #[.int .i64 a0_0,.int .i64 a0_1],.slice A1 l1.length c1] rfl (by (try simp only [List.map_toArray,List.map_cons,List.map_nil]);first|done|rfl) ?_;(with_reducible refine (spec_l3Marks.calls k a0_0 a0_1 _ _ l1 true _ ?side1 ?side2 A3.out).mono ?_);(case side1=>repeat (first|exact (Kd.C_below HR1.out HB.out)|(with_reducible refine Kd.C_alloc ?_ _)|(with_reducible refine Kd.C_drewN ?_ _)|(with_reducible refine Kd.C_drew ?_)));(case side2=>exact HC1.out);rintro e w7 ⟨rfl,hb⟩;refine ⟨_,rfl,?_⟩;have n0_:=zM (blk_below (g:=gb140) (o:=.cells #[.int .i64 a0_0,.int .i64 a0_1] 27 (0,0)) (by (with_reducible repeat (first|refine bA ?_ _|refine bB ?_|refine bC ?_ _));exact BK140.out) hb);have n1_:=zM (bG (by repeat (first|(with_reducible first|exact HB.out|apply bE|apply bD|apply bF|refine below_set ?_ GE140.out)|exact HB.out)) hb);clear BK140;clear HB;have BK140:=n0_;have HB:=n1_;clear n0_ n1_;(try clear hb);(try clear hk);(try clear hi)))
  go_loopg [5] k (fun kq v5 w'=>∃ (x5_1:Int),v5 = .int .i64 x5_1 ∧ Aside0 (spec_MarksOk.l0 kq l1 x5_1 a0_0 a0_1 = some r) ∧ Aside0 (kq ≤ k) ∧ Aside0 (w'.heap[gb140]? = some (.cells #[.int .i64 a0_0,.int .i64 a0_1] 27 (0,0))) ∧ Aside0 (Below w.heap.size w w'))
  case atStart=>exact ⟨(1),(by first|rfl|(simp;done)|(simp [*];done)),H',⟨Nat.le_refl _⟩,⟨by (with_reducible repeat (first|refine bA ?_ _|refine bB ?_|refine bC ?_ _));exact BK140.out⟩,⟨by repeat (first|(with_reducible first|exact HB.out|apply bE|apply bD|apply bF|refine below_set ?_ GE140.out)|exact HB.out)⟩⟩
  case round =>
   clear H'
   try clear c1
   try clear p2
   try clear c4
   try clear hcz6_0
   try clear hcz6_1
   try clear hfz6_0
   try clear hfz6_1
   obtain ⟨x5_1,rfl,HA,HK1,BK140,HB⟩:=hrel
   cases gk with
   | zero=>exact absurd HA.out (by simp [spec_MarksOk.l0])
   | succ k1 =>
    have H:=HA.out
    clear HA
    simp only [spec_MarksOk.l0] at H
    by_cases c8:x5_1 < (l1.length:Int)
    ·rw [if_pos c8] at H
     have c8b0:decide (x5_1 < (l1.length:Int)) = true:=decide_eq_true c8
     clear c8
     obtain ⟨ji9,hji9⟩:∃ j_:Int,(wrap64 (x5_1 - 1)) = j_:=⟨_,rfl⟩
     replace H:(if 0 ≤ (ji9) then (if (ji9) < (l1.length:Int) then (if 0 ≤ x5_1 then ((spec_l3Two.f a0_0 a0_1 ((rd_T38 l1 (ji9)).f0) ((rd_T38 l1 (ji9)).f1) ((rd_T38 l1 x5_1).f0) ((rd_T38 l1 x5_1).f1)).bind fun t144=>(if t144 = true then (spec_MarksOk.l0 k1 l1 (wrap64 (x5_1 + 1)) a0_0 a0_1) else (some false))) else (none)) else (none)) else (none)) = some r:=by first|(rw [hji9] at H;exact H)|(simp only [hji9] at H ⊢;exact H)
     have hji9w:(IntKind.i64.wrap (x5_1 - 1)) = ji9:=(i64_w _).trans hji9
     by_cases c10:0 ≤ (ji9)
     ·rw [if_pos c10] at H
      have c10b0:decide (0 ≤ (ji9)) = true:=decide_eq_true c10
      clear c10
      by_cases c11:(ji9) < (l1.length:Int)
      ·rw [if_pos c11] at H
       have c11b0:decide ((ji9) < (l1.length:Int)) = true:=decide_eq_true c11
       clear c11
       by_cases c12:0 ≤ x5_1
       ·rw [if_pos c12] at H
        have c12b0:decide (0 ≤ x5_1) = true:=decide_eq_true c12
        clear c12
        replace H:=zO H
        obtain ⟨t144,A130,H⟩:=H
        replace H:(if t144 = true then (spec_MarksOk.l0 k1 l1 (wrap64 (x5_1 + 1)) a0_0 a0_1) else (some false)) = some r:=H
        have A13:=zM A130
        clear A130
        by_cases c14:t144 = true
        ·subst c14
         have H1:(spec_MarksOk.l0 k1 l1 (wrap64 (x5_1 + 1)) a0_0 a0_1) = some r:=by rw [if_pos rfl] at H;exact H
         clear H
         have H:=H1
         clear H1
         have H':=zM H
         clear H
         try go_wp2
         have n0_:=zM (bB BK140.out)
         have n1_:=zM (bF HB.out)
         clear BK140
         clear HB
         have BK140:=n0_
         have HB:=n1_
         clear n0_ n1_
         have p142:0 ≤ ((ji9):Int):=of_decide_eq_true (by first|(with_reducible assumption)|assumption)
         have q142:(ji9) < (l1.length:Int):=of_decide_eq_true (by first|(with_reducible assumption)|assumption)
         obtain ⟨ad142,e142,hx142_0,hx142_1⟩:=at_T38 HR1.out (ji9) p142 q142
         have hw142_1:=hx142_1
         have hw142_0:=hx142_0
         cases e142
         replace hx142_0:=(HB.out.cell (World.block_lt_of_cell? w _ hx142_0)).trans hx142_0
         replace hx142_1:=(HB.out.cell (World.block_lt_of_cell? w _ hx142_1)).trans hx142_1
         replace p142:=eq_true p142
         replace q142:=eq_true q142
         have p143:0 ≤ (x5_1:Int):=of_decide_eq_true (by first|(with_reducible assumption)|assumption)
         have q143:x5_1 < (l1.length:Int):=of_decide_eq_true (by first|(with_reducible assumption)|assumption)
         obtain ⟨ad143,e143,hx143_0,hx143_1⟩:=at_T38 HR1.out x5_1 p143 q143
         have hw143_1:=hx143_1
         have hw143_0:=hx143_0
         obtain rfl:ad142 = ad143:=(by injection e143)
         replace hx143_0:=(HB.out.cell (World.block_lt_of_cell? w _ hx143_0)).trans hx143_0
         replace hx143_1:=(HB.out.cell (World.block_lt_of_cell? w _ hx143_1)).trans hx143_1
         replace p143:=eq_true p143
         replace q143:=eq_true q143
         refine start_ (n:=12) (S:=fun w'=>w'.cell? ⟨gb140,0,none⟩ = some (.int .i64 a0_0) ∧ w'.cell? ⟨gb140,1,none⟩ = some (.int .i64 a0_1) ∧ w'.cell? (ad142.add (((ji9)).toNat * 2)) = some (.int .i64 ((rd_T38 l1 (ji9)).f0)) ∧ w'.cell? ⟨(ad142.add (((ji9)).toNat * 2)).block,(ad142.add (((ji9)).toNat * 2)).off + 1,none⟩ = some (.int .i64 ((rd_T38 l1 (ji9)).f1)) ∧ w'.cell? (ad142.add ((x5_1).toNat * 2)) = some (.int .i64 ((rd_T38 l1 x5_1).f0)) ∧ w'.cell? ⟨(ad142.add ((x5_1).toNat * 2)).block,(ad142.add ((x5_1).toNat * 2)).off + 1,none⟩ = some (.int .i64 ((rd_T38 l1 x5_1).f1))) (ds:=[]) #[false,false,false,false,false,false,false,false,false,false,false,false] (by kernel_rfl) rfl rfl ⟨(blk_cell BK140.out 0).trans rfl,(blk_cell BK140.out 1).trans rfl,((HB.out.cell (World.block_lt_of_cell? w _ hw142_0)).trans hw142_0),((HB.out.cell (World.block_lt_of_cell? w _ hw142_1)).trans hw142_1),((HB.out.cell (World.block_lt_of_cell? w _ hw143_0)).trans hw143_0),((HB.out.cell (World.block_lt_of_cell? w _ hw143_1)).trans hw143_1)⟩ (fun hHeld=>?_);refine with_tabW spec_MarksOk.tab6 spec_MarksOk.bits6 (fun HT_ HW_=>?_)
         generalize wr.drew = w15 at BK140 HB hx142_0 hx142_1 hx143_0 hx143_1 hHeld ⊢
         refine pure_ (i:=1) (N:=some 17) (v:=?_) (a':=?_) #[false,true,false,false,false,false,false,false,false,false,false,false] rfl rfl (any_of HT_.out (by kernel_rfl)) (fun _ _ _ h=>h) (Or.inl ⟨by rfl,?_⟩) ?_ ?_
         rotate_left
         ·intro w'
          go_simp
          with_reducible rfl
         rotate_left
         ·simp only [Act.put,zS,z0,z1,i64_w,i32_w]
          rfl
         refine pure_ (i:=2) (N:=some 18) (v:=?_) (a':=?_) #[false,true,true,false,false,false,false,false,false,false,false,false] rfl rfl (any_of HT_.out (by kernel_rfl)) (fun _ _ _ h=>h) (Or.inl ⟨by rfl,?_⟩) ?_ ?_
         rotate_left
         ·intro w'
          go_simp
          with_reducible rfl
         rotate_left
         ·simp only [Act.put,zS,z0,z1,i64_w,i32_w]
          rfl
         refine pure_ (i:=3) (N:=some 19) (v:=?_) (a':=?_) #[false,true,true,true,false,false,false,false,false,false,false,false] rfl rfl (any_of HT_.out (by kernel_rfl)) (fun _ _ _ h=>h) (Or.inl ⟨by rfl,?_⟩) ?_ ?_
         rotate_left
         ·intro w'
          go_simp
          with_reducible rfl
         rotate_left
         ·simp only [Act.put,zS,z0,z1,i64_w,i32_w]
          rfl
         refine pure_ (i:=4) (N:=some 20) (v:=?_) (a':=?_) #[false,true,true,true,true,false,false,false,false,false,false,false] rfl rfl (any_of HT_.out (by kernel_rfl)) (fun _ _ _ h=>h) (Or.inl ⟨by rfl,?_⟩) ?_ ?_
         rotate_left
         ·intro w'
          go_simp
          with_reducible rfl
         rotate_left
         ·simp only [Act.put,zS,z0,z1,i64_w,i32_w]
          rfl
         refine pure_ (i:=6) (N:=some 22) (v:=?_) (a':=?_) #[false,true,true,true,true,false,true,false,false,false,false,false] rfl rfl (any_of HT_.out (by kernel_rfl)) (fun _ _ _ h=>h) (Or.inl ⟨by rfl,?_⟩) ?_ ?_
         rotate_left
         ·intro w'
          go_simp
          with_reducible rfl
         rotate_left
         ·simp only [Act.put,zS,z0,z1,i64_w,i32_w]
          rfl
         refine pure_ (i:=7) (N:=some 23) (v:=?_) (a':=?_) #[false,true,true,true,true,false,true,true,false,false,false,false] rfl rfl (any_of HT_.out (by kernel_rfl)) (fun _ _ _ h=>h) (Or.inl ⟨by rfl,?_⟩) ?_ ?_
         rotate_left
         ·intro w'
          go_simp
          with_reducible rfl
         rotate_left
         ·simp only [Act.put,zS,z0,z1,i64_w,i32_w]
          rfl
         refine pure_ (i:=8) (N:=some 24) (v:=?_) (a':=?_) #[false,true,true,true,true,false,true,true,true,false,false,false] rfl rfl (any_of HT_.out (by kernel_rfl)) (fun _ _ _ h=>h) (Or.inl ⟨by rfl,?_⟩) ?_ ?_
         rotate_left
         ·intro w'
          go_simp
          with_reducible rfl
         rotate_left
         ·simp only [Act.put,zS,z0,z1,i64_w,i32_w]
          rfl
         refine take_ (i:=0) (N:=some 16) (v:=?_) (a':=?_) #[true,true,true,true,true,false,true,true,true,false,false,false] rfl rfl (take_ofW HT_.out HW_.out (by kernel_rfl)) (fun _ _ _ h=>h) (Or.inl ⟨by rfl,?_⟩) hHeld ?_ ?_
         rotate_left
         ·rintro w' ⟨s0,s1,s2,s3,s4,s5⟩
          go_simp
          with_reducible rfl
         rotate_left
         ·simp only [Act.put,zS,z0,z1,i64_w,i32_w]
          rfl
         refine take_ (i:=5) (N:=some 21) (v:=?_) (a':=?_) #[true,true,true,true,true,true,true,true,true,false,false,false] rfl rfl (take_ofW HT_.out HW_.out (by kernel_rfl)) (fun _ _ _ h=>h) (Or.inl ⟨by rfl,?_⟩) hHeld ?_ ?_
         rotate_left
         ·rintro w' ⟨s0,s1,s2,s3,s4,s5⟩
          go_simp
          with_reducible rfl
         rotate_left
         ·simp only [Act.put,zS,z0,z1,i64_w,i32_w]
          rfl
         refine take_ (i:=9) (N:=some 25) (v:=?_) (a':=?_) #[true,true,true,true,true,true,true,true,true,true,false,false] rfl rfl (take_ofW HT_.out HW_.out (by kernel_rfl)) (fun _ _ _ h=>h) (Or.inl ⟨by rfl,?_⟩) hHeld ?_ ?_
         rotate_left
         ·rintro w' ⟨s0,s1,s2,s3,s4,s5⟩
          go_simp
          with_reducible rfl
         rotate_left
         ·simp only [Act.put,zS,z0,z1,i64_w,i32_w]
          rfl
         refine one_ (i:=10) (N:=some 26) #[true,true,true,true,true,true,true,true,true,true,true,false] rfl rfl (one_of HT_.out (by kernel_rfl)) (by decide) (fun K hK=>?_)
         refine goes_ Try.func43 (by kernel_rfl) rfl #[.agg #[.int .i64 a0_0,.int .i64 a0_1],.agg #[.int .i64 ((rd_T38 l1 (ji9)).f0),.int .i64 ((rd_T38 l1 (ji9)).f1)],.agg #[.int .i64 ((rd_T38 l1 x5_1).f0),.int .i64 ((rd_T38 l1 x5_1).f1)]] (by rfl) rfl rfl (by (try simp only [List.map_toArray,List.map_cons,List.map_nil]);first|done|(simp only [hji9];rfl)|rfl|(simp only [List.length_drop,List.length_take];rfl)) ?_
         with_reducible refine (spec_l3Two.calls a0_0 a0_1 ((rd_T38 l1 (ji9)).f0) ((rd_T38 l1 (ji9)).f1) ((rd_T38 l1 x5_1).f0) ((rd_T38 l1 x5_1).f1) true _ A13.out).mono ?_
         rintro e w16 ⟨rfl,hb⟩
         refine ⟨_,rfl,?_⟩
         have n0_:=zM (blk_below (g:=gb140) (o:=.cells #[.int .i64 a0_0,.int .i64 a0_1] 27 (0,0)) (by (with_reducible repeat (first|refine bA ?_ _|refine bB ?_|refine bC ?_ _));exact BK140.out) hb)
         have n1_:=zM (bG (by repeat (first|(with_reducible first|exact HB.out|apply bE|apply bD|apply bF|refine below_set ?_ GE140.out)|exact HB.out)) hb)
         clear BK140
         clear HB
         have BK140:=n0_
         have HB:=n1_
         clear n0_ n1_
         (try clear hb)
         (try clear hb2)
         (try clear hk)
         (try clear hi)
         refine hK.out _ _ ⟨(blk_cell BK140.out 0).trans rfl,(blk_cell BK140.out 1).trans rfl,((HB.out.cell (World.block_lt_of_cell? w _ hw142_0)).trans hw142_0),((HB.out.cell (World.block_lt_of_cell? w _ hw142_1)).trans hw142_1),((HB.out.cell (World.block_lt_of_cell? w _ hw143_0)).trans hw143_0),((HB.out.cell (World.block_lt_of_cell? w _ hw143_1)).trans hw143_1)⟩ (fun hHeld=>?_)
         clear hK K
         refine norm_ (a':=?_) ?_ ?_
         rotate_left
         ·show Act.put _ (some 26) _ = _
          simp only [Act.put,zS,z0,z1,i64_w,i32_w]
          rfl
         refine pure_ (i:=11) (N:=some 27) (v:=?_) (a':=?_) #[true,true,true,true,true,true,true,true,true,true,true,true] rfl rfl (any_of HT_.out (by kernel_rfl)) (fun _ _ _ h=>h) (Or.inl ⟨by rfl,?_⟩) ?_ ?_
         rotate_left
         ·intro w'
          go_simp
          with_reducible rfl
         rotate_left
         ·simp only [Act.put,zS,z0,z1,i64_w,i32_w]
          rfl
         refine done_ (done_of HT_.out (by kernel_rfl)) ?_
         try go_wp2
         go_roundg k1
         case measure=>have:=HK1.out;omega
         case rel=>exact ⟨(wrap64 (x5_1 + 1)),(by first|rfl|(simp;done)|(simp [*];done)),H',⟨by have:=HK1.out;omega⟩,⟨by (with_reducible repeat (first|refine bA ?_ _|refine bB ?_|refine bC ?_ _));exact BK140.out⟩,⟨by repeat (first|(with_reducible first|exact HB.out|apply bE|apply bD|apply bF|refine below_set ?_ GE140.out)|exact HB.out)⟩⟩
        ·replace c14:=Bool.eq_false_iff.mpr c14
         subst c14
         have H1:(some false) = some r:=by rw [if_neg (show ¬ (false = true) by decide)] at H;exact H
         clear H
         have H:=H1
         clear H1
         obtain rfl:=Option.some.inj H
         simp only [zI,zJ] at H
         obtain ⟨rfl⟩:=H
         try go_wp2
         have n0_:=zM (bB BK140.out)
         have n1_:=zM (bF HB.out)
         clear BK140
         clear HB
         have BK140:=n0_
         have HB:=n1_
         clear n0_ n1_
         have p142:0 ≤ ((ji9):Int):=of_decide_eq_true (by first|(with_reducible assumption)|assumption)
         have q142:(ji9) < (l1.length:Int):=of_decide_eq_true (by first|(with_reducible assumption)|assumption)
         obtain ⟨ad142,e142,hx142_0,hx142_1⟩:=at_T38 HR1.out (ji9) p142 q142
         have hw142_1:=hx142_1
         have hw142_0:=hx142_0
         cases e142
         replace hx142_0:=(HB.out.cell (World.block_lt_of_cell? w _ hx142_0)).trans hx142_0
         replace hx142_1:=(HB.out.cell (World.block_lt_of_cell? w _ hx142_1)).trans hx142_1
         replace p142:=eq_true p142
         replace q142:=eq_true q142
         have p143:0 ≤ (x5_1:Int):=of_decide_eq_true (by first|(with_reducible assumption)|assumption)
         have q143:x5_1 < (l1.length:Int):=of_decide_eq_true (by first|(with_reducible assumption)|assumption)
         obtain ⟨ad143,e143,hx143_0,hx143_1⟩:=at_T38 HR1.out x5_1 p143 q143
         have hw143_1:=hx143_1
         have hw143_0:=hx143_0
         obtain rfl:ad142 = ad143:=(by injection e143)
         replace hx143_0:=(HB.out.cell (World.block_lt_of_cell? w _ hx143_0)).trans hx143_0
         replace hx143_1:=(HB.out.cell (World.block_lt_of_cell? w _ hx143_1)).trans hx143_1
         replace p143:=eq_true p143
         replace q143:=eq_true q143
         refine start_ (n:=12) (S:=fun w'=>w'.cell? ⟨gb140,0,none⟩ = some (.int .i64 a0_0) ∧ w'.cell? ⟨gb140,1,none⟩ = some (.int .i64 a0_1) ∧ w'.cell? (ad142.add (((ji9)).toNat * 2)) = some (.int .i64 ((rd_T38 l1 (ji9)).f0)) ∧ w'.cell? ⟨(ad142.add (((ji9)).toNat * 2)).block,(ad142.add (((ji9)).toNat * 2)).off + 1,none⟩ = some (.int .i64 ((rd_T38 l1 (ji9)).f1)) ∧ w'.cell? (ad142.add ((x5_1).toNat * 2)) = some (.int .i64 ((rd_T38 l1 x5_1).f0)) ∧ w'.cell? ⟨(ad142.add ((x5_1).toNat * 2)).block,(ad142.add ((x5_1).toNat * 2)).off + 1,none⟩ = some (.int .i64 ((rd_T38 l1 x5_1).f1))) (ds:=[]) #[false,false,false,false,false,false,false,false,false,false,false,false] (by kernel_rfl) rfl rfl ⟨(blk_cell BK140.out 0).trans rfl,(blk_cell BK140.out 1).trans rfl,((HB.out.cell (World.block_lt_of_cell? w _ hw142_0)).trans hw142_0),((HB.out.cell (World.block_lt_of_cell? w _ hw142_1)).trans hw142_1),((HB.out.cell (World.block_lt_of_cell? w _ hw143_0)).trans hw143_0),((HB.out.cell (World.block_lt_of_cell? w _ hw143_1)).trans hw143_1)⟩ (fun hHeld=>?_);refine with_tabW spec_MarksOk.tab6 spec_MarksOk.bits6 (fun HT_ HW_=>?_)
         generalize wr.drew = w17 at BK140 HB hx142_0 hx142_1 hx143_0 hx143_1 hHeld ⊢
         refine pure_ (i:=1) (N:=some 17) (v:=?_) (a':=?_) #[false,true,false,false,false,false,false,false,false,false,false,false] rfl rfl (any_of HT_.out (by kernel_rfl)) (fun _ _ _ h=>h) (Or.inl ⟨by rfl,?_⟩) ?_ ?_
         rotate_left
         ·intro w'
          go_simp
          with_reducible rfl
         rotate_left
         ·simp only [Act.put,zS,z0,z1,i64_w,i32_w]
          rfl
         refine pure_ (i:=2) (N:=some 18) (v:=?_) (a':=?_) #[false,true,true,false,false,false,false,false,false,false,false,false] rfl rfl (any_of HT_.out (by kernel_rfl)) (fun _ _ _ h=>h) (Or.inl ⟨by rfl,?_⟩) ?_ ?_
         rotate_left
         ·intro w'
          go_simp
          with_reducible rfl
         rotate_left
         ·simp only [Act.put,zS,z0,z1,i64_w,i32_w]
          rfl
         refine pure_ (i:=3) (N:=some 19) (v:=?_) (a':=?_) #[false,true,true,true,false,false,false,false,false,false,false,false] rfl rfl (any_of HT_.out (by kernel_rfl)) (fun _ _ _ h=>h) (Or.inl ⟨by rfl,?_⟩) ?_ ?_
         rotate_left
         ·intro w'
          go_simp
          with_reducible rfl
         rotate_left
         ·simp only [Act.put,zS,z0,z1,i64_w,i32_w]
          rfl
         refine pure_ (i:=4) (N:=some 20) (v:=?_) (a':=?_) #[false,true,true,true,true,false,false,false,false,false,false,false] rfl rfl (any_of HT_.out (by kernel_rfl)) (fun _ _ _ h=>h) (Or.inl ⟨by rfl,?_⟩) ?_ ?_
         rotate_left
         ·intro w'
          go_simp
          with_reducible rfl
         rotate_left
         ·simp only [Act.put,zS,z0,z1,i64_w,i32_w]
          rfl
         refine pure_ (i:=6) (N:=some 22) (v:=?_) (a':=?_) #[false,true,true,true,true,false,true,false,false,false,false,false] rfl rfl (any_of HT_.out (by kernel_rfl)) (fun _ _ _ h=>h) (Or.inl ⟨by rfl,?_⟩) ?_ ?_
         rotate_left
         ·intro w'
          go_simp
          with_reducible rfl
         rotate_left
         ·simp only [Act.put,zS,z0,z1,i64_w,i32_w]
          rfl
         refine pure_ (i:=7) (N:=some 23) (v:=?_) (a':=?_) #[false,true,true,true,true,false,true,true,false,false,false,false] rfl rfl (any_of HT_.out (by kernel_rfl)) (fun _ _ _ h=>h) (Or.inl ⟨by rfl,?_⟩) ?_ ?_
         rotate_left
         ·intro w'
          go_simp
          with_reducible rfl
         rotate_left
         ·simp only [Act.put,zS,z0,z1,i64_w,i32_w]
          rfl
         refine pure_ (i:=8) (N:=some 24) (v:=?_) (a':=?_) #[false,true,true,true,true,false,true,true,true,false,false,false] rfl rfl (any_of HT_.out (by kernel_rfl)) (fun _ _ _ h=>h) (Or.inl ⟨by rfl,?_⟩) ?_ ?_
         rotate_left
         ·intro w'
          go_simp
          with_reducible rfl
         rotate_left
         ·simp only [Act.put,zS,z0,z1,i64_w,i32_w]
          rfl
         refine take_ (i:=0) (N:=some 16) (v:=?_) (a':=?_) #[true,true,true,true,true,false,true,true,true,false,false,false] rfl rfl (take_ofW HT_.out HW_.out (by kernel_rfl)) (fun _ _ _ h=>h) (Or.inl ⟨by rfl,?_⟩) hHeld ?_ ?_
         rotate_left
         ·rintro w' ⟨s0,s1,s2,s3,s4,s5⟩
          go_simp
          with_reducible rfl
         rotate_left
         ·simp only [Act.put,zS,z0,z1,i64_w,i32_w]
          rfl
         refine take_ (i:=5) (N:=some 21) (v:=?_) (a':=?_) #[true,true,true,true,true,true,true,true,true,false,false,false] rfl rfl (take_ofW HT_.out HW_.out (by kernel_rfl)) (fun _ _ _ h=>h) (Or.inl ⟨by rfl,?_⟩) hHeld ?_ ?_
         rotate_left
         ·rintro w' ⟨s0,s1,s2,s3,s4,s5⟩
          go_simp
          with_reducible rfl
         rotate_left
         ·simp only [Act.put,zS,z0,z1,i64_w,i32_w]
          rfl
         refine take_ (i:=9) (N:=some 25) (v:=?_) (a':=?_) #[true,true,true,true,true,true,true,true,true,true,false,false] rfl rfl (take_ofW HT_.out HW_.out (by kernel_rfl)) (fun _ _ _ h=>h) (Or.inl ⟨by rfl,?_⟩) hHeld ?_ ?_
         rotate_left
         ·rintro w' ⟨s0,s1,s2,s3,s4,s5⟩
          go_simp
          with_reducible rfl
         rotate_left
         ·simp only [Act.put,zS,z0,z1,i64_w,i32_w]
          rfl
         refine one_ (i:=10) (N:=some 26) #[true,true,true,true,true,true,true,true,true,true,true,false] rfl rfl (one_of HT_.out (by kernel_rfl)) (by decide) (fun K hK=>?_)
         refine goes_ Try.func43 (by kernel_rfl) rfl #[.agg #[.int .i64 a0_0,.int .i64 a0_1],.agg #[.int .i64 ((rd_T38 l1 (ji9)).f0),.int .i64 ((rd_T38 l1 (ji9)).f1)],.agg #[.int .i64 ((rd_T38 l1 x5_1).f0),.int .i64 ((rd_T38 l1 x5_1).f1)]] (by rfl) rfl rfl (by (try simp only [List.map_toArray,List.map_cons,List.map_nil]);first|done|(simp only [hji9];rfl)|rfl|(simp only [List.length_drop,List.length_take];rfl)) ?_
         with_reducible refine (spec_l3Two.calls a0_0 a0_1 ((rd_T38 l1 (ji9)).f0) ((rd_T38 l1 (ji9)).f1) ((rd_T38 l1 x5_1).f0) ((rd_T38 l1 x5_1).f1) false _ A13.out).mono ?_
         rintro e w18 ⟨rfl,hb⟩
         refine ⟨_,rfl,?_⟩
         have n0_:=zM (blk_below (g:=gb140) (o:=.cells #[.int .i64 a0_0,.int .i64 a0_1] 27 (0,0)) (by (with_reducible repeat (first|refine bA ?_ _|refine bB ?_|refine bC ?_ _));exact BK140.out) hb)
         have n1_:=zM (bG (by repeat (first|(with_reducible first|exact HB.out|apply bE|apply bD|apply bF|refine below_set ?_ GE140.out)|exact HB.out)) hb)
         clear BK140
         clear HB
         have BK140:=n0_
         have HB:=n1_
         clear n0_ n1_
         (try clear hb)
         (try clear hb2)
         (try clear hk)
         (try clear hi)
         refine hK.out _ _ ⟨(blk_cell BK140.out 0).trans rfl,(blk_cell BK140.out 1).trans rfl,((HB.out.cell (World.block_lt_of_cell? w _ hw142_0)).trans hw142_0),((HB.out.cell (World.block_lt_of_cell? w _ hw142_1)).trans hw142_1),((HB.out.cell (World.block_lt_of_cell? w _ hw143_0)).trans hw143_0),((HB.out.cell (World.block_lt_of_cell? w _ hw143_1)).trans hw143_1)⟩ (fun hHeld=>?_)
         clear hK K
         refine norm_ (a':=?_) ?_ ?_
         rotate_left
         ·show Act.put _ (some 26) _ = _
          simp only [Act.put,zS,z0,z1,i64_w,i32_w]
          rfl
         refine pure_ (i:=11) (N:=some 27) (v:=?_) (a':=?_) #[true,true,true,true,true,true,true,true,true,true,true,true] rfl rfl (any_of HT_.out (by kernel_rfl)) (fun _ _ _ h=>h) (Or.inl ⟨by rfl,?_⟩) ?_ ?_
         rotate_left
         ·intro w'
          go_simp
          with_reducible rfl
         rotate_left
         ·simp only [Act.put,zS,z0,z1,i64_w,i32_w]
          rfl
         refine done_ (done_of HT_.out (by kernel_rfl)) ?_
         try go_wp2
         go_ret
         exact ⟨by first|rfl|(simp only [← hji9];first|rfl|(simp [errW_none,errW_some] <;> rfl))|(simp [*,errW_none,errW_some] <;> rfl),by repeat (first|(with_reducible first|exact HB.out|apply bE|apply bD|apply bF|refine below_set ?_ GE140.out)|exact HB.out)⟩
       ·rw [if_neg c12] at H
        exact absurd H (by simp)
      ·rw [if_neg c11] at H
       exact absurd H (by simp)
     ·rw [if_neg c10] at H
      exact absurd H (by simp)
    ·rw [if_neg c8] at H
     have c8b0:decide (x5_1 < (l1.length:Int)) = false:=decide_eq_false c8
     clear c8
     obtain rfl:=Option.some.inj H
     simp only [zI,zJ] at H
     obtain ⟨rfl⟩:=H
     go_wp2
     go_ret
     exact ⟨by first|rfl|(simp [*,errW_none,errW_some] <;> rfl),by repeat (first|(with_reducible first|exact HB.out|apply bE|apply bD|apply bF|refine below_set ?_ GE140.out)|exact HB.out)⟩
 ·replace c4:=Bool.eq_false_iff.mpr c4
  subst c4
  have H1:(some false) = some r:=by rw [if_neg (show ¬ (false = true) by decide)] at H;exact H
  clear H
  have H:=H1
  clear H1
  obtain rfl:=Option.some.inj H
  simp only [zI,zJ] at H
  obtain ⟨rfl⟩:=H
  go_enter Try.func13,Try.ntmps13
  go_wp2_with (first|((with_reducible refine gate_dst (N:=2) rfl ?_);refine box_event ?hg (N:=2) ?hd (cs:=#[.int .i64 a0_0,.int .i64 a0_1]) (t:=27) ?hr ?_;(case hd=>rfl);(case hg=>rfl);(case hr=>first|(go_simp;done)|(go_simp;rfl));intro gb140 hg w19 hbox hb;have n0_:=zM (bG (by repeat (first|(with_reducible first|exact HB.out|apply bE|apply bD|apply bF)|exact HB.out)) hb);have n1_:=zM (hbox);have n2_:=zM ((by rw [hg];exact (below_size (by repeat (first|(with_reducible first|exact HB.out|apply bE|apply bD|apply bF)|exact HB.out))):w.heap.size ≤ gb140));have n3_:=zM ((by rw [hg];exact (below_size (by repeat (first|(with_reducible first|exact HB.out|apply bE|apply bD|apply bF)|exact HB.out))):w.heap.size ≤ gb140));clear HB;have HB:=n0_;have BK140:=n1_;have GW140:=n2_;have GE140:=n3_;clear n0_ n1_ n2_ n3_;clear hb hbox hg;have hcz20_0:w19.cell? ⟨gb140,0,none⟩ = some (.int .i64 a0_0):=(blk_cell BK140.out 0).trans rfl;have hcz20_1:w19.cell? ⟨gb140,1,none⟩ = some (.int .i64 a0_1):=(blk_cell BK140.out 1).trans rfl;have hfz20_0:=blk_frozen BK140.out 0;have hfz20_1:=blk_frozen BK140.out 1)|((with_reducible refine gate_callee (f:=42) rfl ?_);refine goesL_ (some 8) rfl rfl Try.func42 (by kernel_rfl) rfl #[.agg #[.int .i64 a0_0,.int .i64 a0_1],.slice A1 l1.length c1] rfl (by (try simp only [List.map_toArray,List.map_cons,List.map_nil]);first|done|rfl) ?_;(with_reducible refine (spec_l3Marks.calls k a0_0 a0_1 _ _ l1 false _ ?side1 ?side2 A3.out).mono ?_);(case side1=>repeat (first|exact (Kd.C_below HR1.out HB.out)|(with_reducible refine Kd.C_alloc ?_ _)|(with_reducible refine Kd.C_drewN ?_ _)|(with_reducible refine Kd.C_drew ?_)));(case side2=>exact HC1.out);rintro e w21 ⟨rfl,hb⟩;refine ⟨_,rfl,?_⟩;have n0_:=zM (blk_below (g:=gb140) (o:=.cells #[.int .i64 a0_0,.int .i64 a0_1] 27 (0,0)) (by (with_reducible repeat (first|refine bA ?_ _|refine bB ?_|refine bC ?_ _));exact BK140.out) hb);have n1_:=zM (bG (by repeat (first|(with_reducible first|exact HB.out|apply bE|apply bD|apply bF|refine below_set ?_ GE140.out)|exact HB.out)) hb);clear BK140;clear HB;have BK140:=n0_;have HB:=n1_;clear n0_ n1_;(try clear hb);(try clear hk);(try clear hi)))
  go_ret
  exact ⟨by first|rfl|(simp [*,errW_none,errW_some] <;> rfl),by repeat (first|(with_reducible first|exact HB.out|apply bE|apply bD|apply bF|refine below_set ?_ GE140.out)|exact HB.out)⟩

/-! ### spec_l2Told: function 87 -/
def spec_l2Told.f (a0:Int):Option (Int × Bool):=if a0 > 1000000000000 then (some (0,false)) else (some (a0,true))
theorem spec_l2Told.calls (a0:Int) (r1:Int) (r2:Bool) (w:World) (h:spec_l2Told.f a0 = some (r1,r2)) :
  Calls Try.prog 87 #[.int .i64 a0] w fun e w'=>e = .returned (.tuple #[.int .i64 r1,.bool r2]) ∧ Drawn0 w w':=by
 have H:(if a0 > 1000000000000 then (some (0,false)) else (some (a0,true))) = some (r1,r2):=h
 clear h
 by_cases c2:a0 > 1000000000000
 ·rw [if_pos c2] at H
  have c2b0:decide (1000000000000 < a0) = true:=decide_eq_true c2
  clear c2
  simp only [zI,zJ] at H
  obtain ⟨rfl,rfl⟩:=H
  go_enter Try.func87,Try.ntmps87
  go_wp2
  go_ret2
  exact ⟨by first|rfl|(simp;done)|(simp [*];done),by repeat (first|exact Drawn0.refl _|apply Drawn0.step)⟩
 ·rw [if_neg c2] at H
  have c2b0:decide (1000000000000 < a0) = false:=decide_eq_false c2
  clear c2
  simp only [zI,zJ] at H
  obtain ⟨rfl,rfl⟩:=H
  go_enter Try.func87,Try.ntmps87
  go_wp2
  go_ret2
  exact ⟨by first|rfl|(simp;done)|(simp [*];done),by repeat (first|exact Drawn0.refl _|apply Drawn0.step)⟩

end Go.Proofs.Ytlikojcfjamgpaa.XFnExactCountWhen
