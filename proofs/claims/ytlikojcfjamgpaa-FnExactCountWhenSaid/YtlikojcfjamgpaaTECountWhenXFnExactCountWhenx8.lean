-- Written by a program of this claim's session (wip/xprint.py), out of the translation.
import Derived.Test.YtlikojcfjamgpaaTECountWhenXFnExactCountWhenx0
import Derived.Test.YtlikojcfjamgpaaTECountWhenXFnExactCountWhenx1
import Derived.Test.YtlikojcfjamgpaaTECountWhenXFnExactCountWhenx4
import Derived.Test.YtlikojcfjamgpaaTECountWhenXFnExactCountWhenx7
namespace Go.Proofs.Ytlikojcfjamgpaa.XFnExactCountWhen
open Go.RowKit Go.Proofs.YtlikojcfjamgpaaW.PrintWords Go.Proofs.YtlikojcfjamgpaaW.PrintLast Go.Proofs.YtlikojcfjamgpaaW.PrintMore
open Go.Proofs.YtlikojcfjamgpaaW.PrintWords renaming blk_drewN → bA, blk_drew → bB, blk_alloc → bC, pw_below_drewN → bD, below_alloc → bE, below_drew1 → bF, Aside0.mk → zM, below_step → bG, blk_put → bH
open List renaming setIfInBounds_toArray → zS, set_cons_zero → z0, set_cons_succ → z1
attribute [local go_sem] max2_int min2_int max_two min_two max_three min_three max_four min_four
set_option linter.unusedVariables false
set_option linter.unusedSimpArgs false
set_option maxHeartbeats 8000000
set_option maxRecDepth 100000

/-! ### impl_CountWhen: function 26 -/
def impl_CountWhen.f (k:Nat) (a0_0:Int) (a0_1:Int) (l1:List (S38)) (a2:Int):Option (Int × Int × Bool):=(impl_between_60_61_62.f k a0_0 a0_1 l1 a2).bind fun bt251=>(some (bt251.1,bt251.2.1,bt251.2.2))
theorem impl_CountWhen.mono:∀ a0 a1 a2 a3 k,LeO (impl_CountWhen.f k a0 a1 a2 a3) (impl_CountWhen.f (k + 1) a0 a1 a2 a3):=by
 intro a0 a1 a2 a3 k
 unfold impl_CountWhen.f
 repeat' first
   | (with_reducible exact impl_between_60_61_62.mono _ _ _ _ _)
   | (with_reducible exact LeO.refl _)
   | (with_reducible exact LeO.none _)
   | (with_reducible refine LeO.ite ?_ ?_)
   | (with_reducible refine LeO.bind ?_ (fun _=>?_))
   | exact impl_between_60_61_62.mono _ _ _ _ _
   | exact LeO.none _
   | refine LeO.ite ?_ ?_
   | refine LeO.bind ?_ (fun _=>?_)
theorem impl_CountWhen.calls (k:Nat) (a0_0:Int) (a0_1:Int) (A1:Option Addr) (c1:Nat) (l1:List (S38)) (a2:Int) (r1:Int) (r2:Int) (r3:Bool) (w:World) (hr1:Kd.C k38 w A1 l1.length l1) (hc1:l1.length ≤ c1) (h:impl_CountWhen.f k a0_0 a0_1 l1 a2 = some (r1,r2,r3)) :
  Calls Try.prog 26 #[.agg #[.int .i64 a0_0,.int .i64 a0_1],.slice A1 l1.length c1,.int .i64 a2] w fun e w'=>e = .returned (.tuple #[.agg #[.int .i64 r1,.int .i64 r2],.bool r3]) ∧ Below w.heap.size w w':=by
 have hu27:=Try.underlying27
 have hu40:=Try.underlying40
 have HR1:=zM hr1
 have HC1:=zM hc1
 clear hr1 hc1
 have HB:=zM (Below.refl w.heap.size w)
 have H:((impl_between_60_61_62.f k a0_0 a0_1 l1 a2).bind fun bt251=>(some (bt251.1,bt251.2.1,bt251.2.2))) = some (r1,r2,r3):=h
 clear h
 replace H:=zO H
 obtain ⟨⟨t251,t252,t253⟩,A40,H⟩:=H
 replace H:(some (t251,t252,t253)) = some (r1,r2,r3):=H
 have A4:=zM A40
 clear A40
 simp only [zI,zJ] at H
 obtain ⟨rfl,rfl,rfl⟩:=H
 go_enter Try.func26,Try.ntmps26
 go_wp2_with (first|((with_reducible refine gate_dst (N:=3) rfl ?_);refine box_event ?hg (N:=3) ?hd (cs:=#[.int .i64 a0_0,.int .i64 a0_1]) (t:=27) ?hr ?_;(case hd=>rfl);(case hg=>rfl);(case hr=>first|(go_simp;done)|(go_simp;rfl));intro gb249 hg w5 hbox hb;have n0_:=zM (bG (by repeat (first|(with_reducible first|exact HB.out|apply bE|apply bD|apply bF)|exact HB.out)) hb);have n1_:=zM (hbox);have n2_:=zM ((by rw [hg];exact (below_size (by repeat (first|(with_reducible first|exact HB.out|apply bE|apply bD|apply bF)|exact HB.out))):w.heap.size ≤ gb249));have n3_:=zM ((by rw [hg];exact (below_size (by repeat (first|(with_reducible first|exact HB.out|apply bE|apply bD|apply bF)|exact HB.out))):w.heap.size ≤ gb249));clear HB;have HB:=n0_;have BK249:=n1_;have GW249:=n2_;have GE249:=n3_;clear n0_ n1_ n2_ n3_;clear hb hbox hg)|((with_reducible refine gate_dst (N:=6) rfl ?_);refine box_event ?hg (N:=6) ?hd (cs:=#[.int .i64 0,.int .i64 0]) (t:=40) ?hr ?_;(case hd=>rfl);(case hg=>rfl);(case hr=>first|(go_simp;done)|(go_simp;rfl));intro gb250 hg w6 hbox hb;have n0_:=zM (blk_below (g:=gb249) (o:=.cells #[.int .i64 a0_0,.int .i64 a0_1] 27 (0,0)) (by (with_reducible repeat (first|refine bA ?_ _|refine bB ?_|refine bC ?_ _));exact BK249.out) hb);have n1_:=zM (bG (by repeat (first|(with_reducible first|exact HB.out|apply bE|apply bD|apply bF|refine below_set ?_ GE249.out)|exact HB.out)) hb);have n2_:=zM (hbox);have n3_:=zM ((by rw [hg];exact (below_size (by repeat (first|(with_reducible first|exact HB.out|apply bE|apply bD|apply bF|refine below_set ?_ GE249.out)|exact HB.out))):w.heap.size ≤ gb250));have n4_:=zM ((by rw [hg];exact (below_size (by repeat (first|(with_reducible first|exact HB.out|apply bE|apply bD|apply bF|refine below_set ?_ GE249.out)|exact HB.out))):w.heap.size ≤ gb250));have n5_:=zM ((by rw [hg];exact Nat.ne_of_lt (blk_lt (g:=gb249) (o:=.cells #[.int .i64 a0_0,.int .i64 a0_1] 27 (0,0)) (by (with_reducible repeat (first|refine bA ?_ _|refine bB ?_|refine bC ?_ _));exact BK249.out)):gb249 ≠ gb250));have n6_:=zM ((by rw [hg];exact Nat.ne_of_gt (blk_lt (g:=gb249) (o:=.cells #[.int .i64 a0_0,.int .i64 a0_1] 27 (0,0)) (by (with_reducible repeat (first|refine bA ?_ _|refine bB ?_|refine bC ?_ _));exact BK249.out)):gb250 ≠ gb249));clear BK249;clear HB;have BK249:=n0_;have HB:=n1_;have BK250:=n2_;have GW250:=n3_;have GE250:=n4_;have NB249_250:=n5_;have NB250_249:=n6_;clear n0_ n1_ n2_ n3_ n4_ n5_ n6_;clear hb hbox hg;have hnb7:=NB249_250.out;have hnc7:=NB250_249.out;have hcz8_0:w6.cell? ⟨gb249,0,none⟩ = some (.int .i64 a0_0):=(blk_cell BK249.out 0).trans rfl;have hcz8_1:w6.cell? ⟨gb249,1,none⟩ = some (.int .i64 a0_1):=(blk_cell BK249.out 1).trans rfl;have hfz8_0:=blk_frozen BK249.out 0;have hfz8_1:=blk_frozen BK249.out 1)|((with_reducible refine gate_callee (f:=59) rfl ?_);refine goesL_ (some 11) rfl rfl Try.func59 (by kernel_rfl) rfl #[.agg #[.int .i64 a0_0,.int .i64 a0_1],.slice A1 l1.length c1,.int .i64 a2,.func (.func 60) #[] #[],.func (.func 61) #[] #[],.func (.func 62) #[] #[]] rfl (by (try simp only [List.map_toArray,List.map_cons,List.map_nil]);first|done|rfl) ?_;(with_reducible refine (impl_between_60_61_62.calls k a0_0 a0_1 _ _ l1 a2    t251 t252 t253 _ ?side1 ?side2 A4.out).mono ?_);(case side1=>repeat (first|exact (Kd.C_below HR1.out HB.out)|(with_reducible refine Kd.C_alloc ?_ _)|(with_reducible refine Kd.C_drewN ?_ _)|(with_reducible refine Kd.C_drew ?_)));(case side2=>exact HC1.out);rintro e w9 ⟨rfl,hb⟩;refine ⟨_,rfl,?_⟩;have n0_:=zM (blk_below (g:=gb249) (o:=.cells #[.int .i64 a0_0,.int .i64 a0_1] 27 (0,0)) (by (with_reducible repeat (first|refine bA ?_ _|refine bB ?_|refine bC ?_ _));exact BK249.out) hb);have n1_:=zM (blk_below (g:=gb250) (o:=.cells #[.int .i64 0,.int .i64 0] 40 (0,0)) (by (with_reducible repeat (first|refine bA ?_ _|refine bB ?_|refine bC ?_ _));exact BK250.out) hb);have n2_:=zM (bG (by repeat (first|(with_reducible first|exact HB.out|apply bE|apply bD|apply bF|refine below_set ?_ GE249.out|refine below_set ?_ GE250.out)|exact HB.out)) hb);clear BK249;clear BK250;clear HB;have BK249:=n0_;have BK250:=n1_;have HB:=n2_;clear n0_ n1_ n2_;(try clear hb);(try clear hk);(try clear hi);have hcz10_0:w9.cell? ⟨gb250,0,none⟩ = some (.int .i64 0):=(blk_cell BK250.out 0).trans rfl;have hcz10_1:w9.cell? ⟨gb250,1,none⟩ = some (.int .i64 0):=(blk_cell BK250.out 1).trans rfl;have hfz10_0:=blk_frozen BK250.out 0;have hfz10_1:=blk_frozen BK250.out 1))
 refine bodyPost_ret (results_ct rfl _ _ gb250 40 #[.int .i64 t251,.int .i64 t252] (0,0) _ rfl (by (with_reducible repeat (first|refine bA ?_ _|refine bB ?_|refine bC ?_ _));refine bH (cs:=#[.int .i64 t251,.int .i64 0]) ?_ 1 _ rfl;(with_reducible repeat (first|refine bA ?_ _|refine bB ?_|refine bC ?_ _));refine bH (cs:=#[.int .i64 0,.int .i64 0]) ?_ 0 _ rfl;(with_reducible repeat (first|refine bA ?_ _|refine bB ?_|refine bC ?_ _));exact BK250.out) Try.underlying40 rfl (by kernel_rfl)) rfl ?_
 exact ⟨by first|rfl|(simp [*,errW_none,errW_some] <;> rfl),by repeat (first|(with_reducible first|exact HB.out|apply bE|apply bD|apply bF|refine below_set ?_ GE249.out|refine below_set ?_ GE250.out)|exact HB.out)⟩

/-! ### laws_FnExactCountWhen: function 7 -/
def laws_FnExactCountWhen.j0:Nat → List (S69) → List (S38) → Bool → Option (Bool)
 | 0,_,_,_=>none
 | k + 1,x1,x10,x45=>if x45 = true then (some false) else ((laws_toMarkS.f k x1).bind fun t275=>((laws_eqMarkS.f k x10 t275).bind fun t278=>(if t278 = true then (some true) else (some false))))
def laws_FnExactCountWhen.f (k:Nat) (a0_0:Int) (a0_1:Int) (l1:List (S69)) (a2:Int):Option (Bool):=(laws_szMarkS.f l1 1048576).bind fun t255=>(if t255 < 0 then (some true) else ((laws_toDrift.f a0_0 a0_1).bind fun bt256=>((laws_toMarkS.f k l1).bind fun t258=>((spec_CountWhen.f k bt256.1 bt256.2 t258 a2).bind fun bt261=>((laws_toMarkS.f k l1).bind fun t265=>((laws_toDrift.f a0_0 a0_1).bind fun bt268=>((impl_CountWhen.f k bt268.1 bt268.2 t265 a2).bind fun bt270=>((laws_eqIval.f bt270.1 bt270.2.1 bt261.1 bt261.2.1).bind fun t274=>(if t274 = true then (laws_FnExactCountWhen.j0 k l1 t265 (bt270.2.2 != bt261.2.2)) else (laws_FnExactCountWhen.j0 k l1 t265 true))))))))))
theorem laws_FnExactCountWhen.mono_l:∀ k,(∀ y0 y1 y2,LeO (laws_FnExactCountWhen.j0 k y0 y1 y2) (laws_FnExactCountWhen.j0 (k + 1) y0 y1 y2))
 | 0=>fun _ _ _ r h=>by simp [laws_FnExactCountWhen.j0] at h
 | k + 1=>by
  have ih0:=laws_FnExactCountWhen.mono_l k
  ·intro y0 y1 y2
   unfold laws_FnExactCountWhen.j0
   repeat' first
   | (with_reducible exact ih0 _ _ _)
   | (with_reducible exact impl_CountWhen.mono _ _ _ _ _)
   | (with_reducible exact laws_eqMarkS.mono _ _ _)
   | (with_reducible exact laws_toMarkS.mono _ _)
   | (with_reducible exact spec_CountWhen.mono _ _ _ _ _)
   | (with_reducible exact LeO.refl _)
   | (with_reducible exact LeO.none _)
   | (with_reducible refine LeO.ite ?_ ?_)
   | (with_reducible refine LeO.bind ?_ (fun _=>?_))
   | exact ih0 _ _ _
   | exact impl_CountWhen.mono _ _ _ _ _
   | exact laws_eqMarkS.mono _ _ _
   | exact laws_toMarkS.mono _ _
   | exact spec_CountWhen.mono _ _ _ _ _
   | exact LeO.none _
   | refine LeO.ite ?_ ?_
   | refine LeO.bind ?_ (fun _=>?_)
theorem laws_FnExactCountWhen.mono:∀ a0 a1 a2 a3 k,LeO (laws_FnExactCountWhen.f k a0 a1 a2 a3) (laws_FnExactCountWhen.f (k + 1) a0 a1 a2 a3):=by
 intro a0 a1 a2 a3 k
 have ih0:=laws_FnExactCountWhen.mono_l k
 unfold laws_FnExactCountWhen.f
 repeat' first
   | (with_reducible exact ih0 _ _ _)
   | (with_reducible exact impl_CountWhen.mono _ _ _ _ _)
   | (with_reducible exact laws_eqMarkS.mono _ _ _)
   | (with_reducible exact laws_toMarkS.mono _ _)
   | (with_reducible exact spec_CountWhen.mono _ _ _ _ _)
   | (with_reducible exact LeO.refl _)
   | (with_reducible exact LeO.none _)
   | (with_reducible refine LeO.ite ?_ ?_)
   | (with_reducible refine LeO.bind ?_ (fun _=>?_))
   | exact ih0 _ _ _
   | exact impl_CountWhen.mono _ _ _ _ _
   | exact laws_eqMarkS.mono _ _ _
   | exact laws_toMarkS.mono _ _
   | exact spec_CountWhen.mono _ _ _ _ _
   | exact LeO.none _
   | refine LeO.ite ?_ ?_
   | refine LeO.bind ?_ (fun _=>?_)
theorem laws_FnExactCountWhen.calls (k:Nat) (a0_0:Int) (a0_1:Int) (A1:Option Addr) (c1:Nat) (l1:List (S69)) (a2:Int) (r:Bool) (w:World) (hr1:Kd.C k69 w A1 l1.length l1) (hc1:l1.length ≤ c1) (HR:Aside0 (r = true)) (h:laws_FnExactCountWhen.f k a0_0 a0_1 l1 a2 = some r) :
  Calls Try.prog 7 #[.agg #[.int .i64 a0_0,.int .i64 a0_1],.slice A1 l1.length c1,.int .i64 a2] w fun e w'=>e = .returned (.bool r) ∧ Below w.heap.size w w':=by
 have hu23:=Try.underlying23
 have hu40:=Try.underlying40
 have HR1:=zM hr1
 have HC1:=zM hc1
 clear hr1 hc1
 have HB:=zM (Below.refl w.heap.size w)
 have H:((laws_szMarkS.f l1 1048576).bind fun t255=>(if t255 < 0 then (some true) else ((laws_toDrift.f a0_0 a0_1).bind fun bt256=>((laws_toMarkS.f k l1).bind fun t258=>((spec_CountWhen.f k bt256.1 bt256.2 t258 a2).bind fun bt261=>((laws_toMarkS.f k l1).bind fun t265=>((laws_toDrift.f a0_0 a0_1).bind fun bt268=>((impl_CountWhen.f k bt268.1 bt268.2 t265 a2).bind fun bt270=>((laws_eqIval.f bt270.1 bt270.2.1 bt261.1 bt261.2.1).bind fun t274=>(if t274 = true then (laws_FnExactCountWhen.j0 k l1 t265 (bt270.2.2 != bt261.2.2)) else (laws_FnExactCountWhen.j0 k l1 t265 true))))))))))) = some r:=h
 clear h
 replace H:=zO H
 obtain ⟨t255,A40,H⟩:=H
 replace H:(if t255 < 0 then (some true) else ((laws_toDrift.f a0_0 a0_1).bind fun bt256=>((laws_toMarkS.f k l1).bind fun t258=>((spec_CountWhen.f k bt256.1 bt256.2 t258 a2).bind fun bt261=>((laws_toMarkS.f k l1).bind fun t265=>((laws_toDrift.f a0_0 a0_1).bind fun bt268=>((impl_CountWhen.f k bt268.1 bt268.2 t265 a2).bind fun bt270=>((laws_eqIval.f bt270.1 bt270.2.1 bt261.1 bt261.2.1).bind fun t274=>(if t274 = true then (laws_FnExactCountWhen.j0 k l1 t265 (bt270.2.2 != bt261.2.2)) else (laws_FnExactCountWhen.j0 k l1 t265 true)))))))))) = some r:=H
 have A4:=zM A40
 clear A40
 by_cases c5:t255 < 0
 ·rw [if_pos c5] at H
  have c5b0:decide (t255 < 0) = true:=decide_eq_true c5
  clear c5
  obtain rfl:=Option.some.inj H
  simp only [zI,zJ] at H
  obtain ⟨rfl⟩:=H
  go_enter Try.func7,Try.ntmps7
  go_wp2_with (first|((with_reducible refine gate_dst (N:=3) rfl ?_);refine box_event ?hg (N:=3) ?hd (cs:=#[.int .i64 a0_0,.int .i64 a0_1]) (t:=23) ?hr ?_;(case hd=>rfl);(case hg=>rfl);(case hr=>first|(go_simp;done)|(go_simp;rfl));intro gb254 hg w6 hbox hb;have n0_:=zM (bG (by repeat (first|(with_reducible first|exact HB.out|apply bE|apply bD|apply bF)|exact HB.out)) hb);have n1_:=zM (hbox);have n2_:=zM ((by rw [hg];exact (below_size (by repeat (first|(with_reducible first|exact HB.out|apply bE|apply bD|apply bF)|exact HB.out))):w.heap.size ≤ gb254));have n3_:=zM ((by rw [hg];exact (below_size (by repeat (first|(with_reducible first|exact HB.out|apply bE|apply bD|apply bF)|exact HB.out))):w.heap.size ≤ gb254));clear HB;have HB:=n0_;have BK254:=n1_;have GW254:=n2_;have GE254:=n3_;clear n0_ n1_ n2_ n3_;clear hb hbox hg)|((with_reducible refine gate_callee (f:=12) rfl ?_);refine goesL_ (some 15) rfl rfl Try.func12 (by kernel_rfl) rfl #[.slice A1 l1.length c1,.int .i64 1048576] rfl (by (try simp only [List.map_toArray,List.map_cons,List.map_nil]);first|done|rfl) ?_;(with_reducible refine (laws_szMarkS.calls _ _ l1 1048576 t255 _ ?side1 ?side2 A4.out).mono ?_);(case side1=>repeat (first|exact (Kd.C_below HR1.out HB.out)|(with_reducible refine Kd.C_alloc ?_ _)|(with_reducible refine Kd.C_drewN ?_ _)|(with_reducible refine Kd.C_drew ?_)));(case side2=>exact HC1.out);rintro e w' ⟨rfl,⟨nd,rfl⟩⟩;refine ⟨_,rfl,?_⟩))
  go_ret
  exact ⟨by first|rfl|(simp [*,errW_none,errW_some] <;> rfl),by repeat (first|(with_reducible first|exact HB.out|apply bE|apply bD|apply bF|refine below_set ?_ GE254.out)|exact HB.out)⟩
 ·rw [if_neg c5] at H
  have c5b0:decide (t255 < 0) = false:=decide_eq_false c5
  clear c5
  replace H:=zO H
  obtain ⟨⟨t256,t257⟩,A70,H⟩:=H
  replace H:((laws_toMarkS.f k l1).bind fun t258=>((spec_CountWhen.f k t256 t257 t258 a2).bind fun bt261=>((laws_toMarkS.f k l1).bind fun t265=>((laws_toDrift.f a0_0 a0_1).bind fun bt268=>((impl_CountWhen.f k bt268.1 bt268.2 t265 a2).bind fun bt270=>((laws_eqIval.f bt270.1 bt270.2.1 bt261.1 bt261.2.1).bind fun t274=>(if t274 = true then (laws_FnExactCountWhen.j0 k l1 t265 (bt270.2.2 != bt261.2.2)) else (laws_FnExactCountWhen.j0 k l1 t265 true)))))))) = some r:=H
  have A7:=zM A70
  clear A70
  replace H:=zO H
  obtain ⟨t258,A80,H⟩:=H
  replace H:((spec_CountWhen.f k t256 t257 t258 a2).bind fun bt261=>((laws_toMarkS.f k l1).bind fun t265=>((laws_toDrift.f a0_0 a0_1).bind fun bt268=>((impl_CountWhen.f k bt268.1 bt268.2 t265 a2).bind fun bt270=>((laws_eqIval.f bt270.1 bt270.2.1 bt261.1 bt261.2.1).bind fun t274=>(if t274 = true then (laws_FnExactCountWhen.j0 k l1 t265 (bt270.2.2 != bt261.2.2)) else (laws_FnExactCountWhen.j0 k l1 t265 true))))))) = some r:=H
  have A8:=zM A80
  clear A80
  replace H:=zO H
  obtain ⟨⟨t261,t262,t263⟩,A90,H⟩:=H
  replace H:((laws_toMarkS.f k l1).bind fun t265=>((laws_toDrift.f a0_0 a0_1).bind fun bt268=>((impl_CountWhen.f k bt268.1 bt268.2 t265 a2).bind fun bt270=>((laws_eqIval.f bt270.1 bt270.2.1 t261 t262).bind fun t274=>(if t274 = true then (laws_FnExactCountWhen.j0 k l1 t265 (bt270.2.2 != t263)) else (laws_FnExactCountWhen.j0 k l1 t265 true)))))) = some r:=H
  have A9:=zM A90
  clear A90
  replace H:=zO H
  obtain ⟨t265,A100,H⟩:=H
  replace H:((laws_toDrift.f a0_0 a0_1).bind fun bt268=>((impl_CountWhen.f k bt268.1 bt268.2 t265 a2).bind fun bt270=>((laws_eqIval.f bt270.1 bt270.2.1 t261 t262).bind fun t274=>(if t274 = true then (laws_FnExactCountWhen.j0 k l1 t265 (bt270.2.2 != t263)) else (laws_FnExactCountWhen.j0 k l1 t265 true))))) = some r:=H
  have A10:=zM A100
  clear A100
  replace H:=zO H
  obtain ⟨⟨t268,t269⟩,A110,H⟩:=H
  replace H:((impl_CountWhen.f k t268 t269 t265 a2).bind fun bt270=>((laws_eqIval.f bt270.1 bt270.2.1 t261 t262).bind fun t274=>(if t274 = true then (laws_FnExactCountWhen.j0 k l1 t265 (bt270.2.2 != t263)) else (laws_FnExactCountWhen.j0 k l1 t265 true)))) = some r:=H
  have A11:=zM A110
  clear A110
  replace H:=zO H
  obtain ⟨⟨t270,t271,t272⟩,A120,H⟩:=H
  replace H:((laws_eqIval.f t270 t271 t261 t262).bind fun t274=>(if t274 = true then (laws_FnExactCountWhen.j0 k l1 t265 (t272 != t263)) else (laws_FnExactCountWhen.j0 k l1 t265 true))) = some r:=H
  have A12:=zM A120
  clear A120
  have HC13:=zM H
  clear H
  go_enter Try.func7,Try.ntmps7
  go_upto_region 8 with (first|((with_reducible refine gate_dst (N:=3) rfl ?_);refine box_event ?hg (N:=3) ?hd (cs:=#[.int .i64 a0_0,.int .i64 a0_1]) (t:=23) ?hr ?_;(case hd=>rfl);(case hg=>rfl);(case hr=>first|(go_simp;done)|(go_simp;rfl));intro gb254 hg w14 hbox hb;have n0_:=zM (bG (by repeat (first|(with_reducible first|exact HB.out|apply bE|apply bD|apply bF)|exact HB.out)) hb);have n1_:=zM (hbox);have n2_:=zM ((by rw [hg];exact (below_size (by repeat (first|(with_reducible first|exact HB.out|apply bE|apply bD|apply bF)|exact HB.out))):w.heap.size ≤ gb254));have n3_:=zM ((by rw [hg];exact (below_size (by repeat (first|(with_reducible first|exact HB.out|apply bE|apply bD|apply bF)|exact HB.out))):w.heap.size ≤ gb254));clear HB;have HB:=n0_;have BK254:=n1_;have GW254:=n2_;have GE254:=n3_;clear n0_ n1_ n2_ n3_;clear hb hbox hg)|((with_reducible refine gate_callee (f:=12) rfl ?_);refine goesL_ (some 15) rfl rfl Try.func12 (by kernel_rfl) rfl #[.slice A1 l1.length c1,.int .i64 1048576] rfl (by (try simp only [List.map_toArray,List.map_cons,List.map_nil]);first|done|rfl) ?_;(with_reducible refine (laws_szMarkS.calls _ _ l1 1048576 t255 _ ?side1 ?side2 A4.out).mono ?_);(case side1=>repeat (first|exact (Kd.C_below HR1.out HB.out)|(with_reducible refine Kd.C_alloc ?_ _)|(with_reducible refine Kd.C_drewN ?_ _)|(with_reducible refine Kd.C_drew ?_)));(case side2=>exact HC1.out);rintro e w' ⟨rfl,⟨nd,rfl⟩⟩;refine ⟨_,rfl,?_⟩;(try (rw [drewN_self w14];generalize hq_:World.drewN w14 _ = w14;have n0_:Aside0 (w14.heap[gb254]? = some (.cells #[.int .i64 a0_0,.int .i64 a0_1] 23 (0,0))):=⟨by rw [← hq_];exact (by (with_reducible repeat (first|refine bA ?_ _|refine bB ?_|refine bC ?_ _));exact BK254.out)⟩;have n1_:Aside0 (Below w.heap.size w w14):=⟨by rw [← hq_];exact (by repeat (first|(with_reducible first|exact HB.out|apply bE|apply bD|apply bF|refine below_set ?_ GE254.out)|exact HB.out))⟩;clear BK254 HB hq_;have BK254:=n0_;have HB:=n1_;clear n0_ n1_));have hcz15_0:w14.cell? ⟨gb254,0,none⟩ = some (.int .i64 a0_0):=(blk_cell BK254.out 0).trans rfl;have hcz15_1:w14.cell? ⟨gb254,1,none⟩ = some (.int .i64 a0_1):=(blk_cell BK254.out 1).trans rfl;have hfz15_0:=blk_frozen BK254.out 0;have hfz15_1:=blk_frozen BK254.out 1)|((with_reducible refine gate_callee (f:=14) rfl ?_);refine goesL_ (some 20) rfl rfl Try.func14 (by kernel_rfl) rfl #[.agg #[.int .i64 a0_0,.int .i64 a0_1]] rfl (by (try simp only [List.map_toArray,List.map_cons,List.map_nil]);first|done|rfl) ?_;(with_reducible refine (laws_toDrift.calls a0_0 a0_1 t256 t257 _ A7.out).mono ?_);rintro e w16 ⟨rfl,hb⟩;refine ⟨_,rfl,?_⟩;have n0_:=zM (blk_below (g:=gb254) (o:=.cells #[.int .i64 a0_0,.int .i64 a0_1] 23 (0,0)) (by (with_reducible repeat (first|refine bA ?_ _|refine bB ?_|refine bC ?_ _));exact BK254.out) hb);have n1_:=zM (bG (by repeat (first|(with_reducible first|exact HB.out|apply bE|apply bD|apply bF|refine below_set ?_ GE254.out)|exact HB.out)) hb);clear BK254;clear HB;have BK254:=n0_;have HB:=n1_;clear n0_ n1_;(try clear hb);(try clear hk);(try clear hi))|((with_reducible refine gate_callee (f:=15) rfl ?_);refine goesL_ (some 22) rfl rfl Try.func15 (by kernel_rfl) rfl #[.slice A1 l1.length c1] rfl (by (try simp only [List.map_toArray,List.map_cons,List.map_nil]);first|done|rfl) ?_;(with_reducible refine (laws_toMarkS.calls k _ _ l1 t258 _ ?side1 ?side2 A8.out).mono ?_);(case side1=>repeat (first|exact (Kd.C_below HR1.out HB.out)|(with_reducible refine Kd.C_alloc ?_ _)|(with_reducible refine Kd.C_drewN ?_ _)|(with_reducible refine Kd.C_drew ?_)));(case side2=>exact HC1.out);rintro e w17 ⟨v259,rfl,ho0,hb⟩;refine ⟨_,rfl,?_⟩;have n0_:=zM (Kd.R_lower ho0 (below_size (by repeat (first|(with_reducible first|exact HB.out|apply bE|apply bD|apply bF|refine below_set ?_ GE254.out)|exact HB.out))));have n1_:=zM (blk_below (g:=gb254) (o:=.cells #[.int .i64 a0_0,.int .i64 a0_1] 23 (0,0)) (by (with_reducible repeat (first|refine bA ?_ _|refine bB ?_|refine bC ?_ _));exact BK254.out) hb);have n2_:=zM (bG (by repeat (first|(with_reducible first|exact HB.out|apply bE|apply bD|apply bF|refine below_set ?_ GE254.out)|exact HB.out)) hb);clear BK254;clear HB;have HO260:=n0_;have BK254:=n1_;have HB:=n2_;clear n0_ n1_ n2_;(try clear hb);(try clear hk);(try clear hi);(try clear ho0);obtain ⟨Ao18,co18,eo18⟩:=Kd.R_slice HO260.out;subst eo18)|((with_reducible refine gate_callee (f:=25) rfl ?_);refine goesL_ (some 24) rfl rfl Try.func25 (by kernel_rfl) rfl #[.agg #[.int .i64 t256,.int .i64 t257],.slice Ao18 t258.length co18,.int .i64 a2] rfl (by (try simp only [List.map_toArray,List.map_cons,List.map_nil]);first|done|rfl) ?_;(with_reducible refine (spec_CountWhen.calls k t256 t257 _ _ t258 a2 t261 t262 t263 _ ?side1 ?side2 A9.out).mono ?_);(case side1=>repeat (first|exact (Kd.R_reads' HO260.out).2.2|(with_reducible refine Kd.C_alloc ?_ _)|(with_reducible refine Kd.C_drewN ?_ _)|(with_reducible refine Kd.C_drew ?_)));(case side2=>exact (Kd.R_reads' HO260.out).2.1);rintro e w19 ⟨rfl,hb⟩;refine ⟨_,rfl,?_⟩;have n0_:=zM (Kd.R_below (by (with_reducible repeat (first|apply Kd.R_alloc|apply Kd.R_drewN|apply Kd.R_drew));exact HO260.out) hb);have n1_:=zM (blk_below (g:=gb254) (o:=.cells #[.int .i64 a0_0,.int .i64 a0_1] 23 (0,0)) (by (with_reducible repeat (first|refine bA ?_ _|refine bB ?_|refine bC ?_ _));exact BK254.out) hb);have n2_:=zM (bG (by repeat (first|(with_reducible first|exact HB.out|apply bE|apply bD|apply bF|refine below_set ?_ GE254.out)|exact HB.out)) hb);clear HO260;clear BK254;clear HB;have HO260:=n0_;have BK254:=n1_;have HB:=n2_;clear n0_ n1_ n2_;(try clear hb);(try clear hk);(try clear hi))|((with_reducible refine gate_dst (N:=8) rfl ?_);refine box_event ?hg (N:=8) ?hd (cs:=#[.int .i64 0,.int .i64 0]) (t:=40) ?hr ?_;(case hd=>rfl);(case hg=>rfl);(case hr=>first|(go_simp;done)|(go_simp;rfl));intro gb264 hg w20 hbox hb;have n0_:=zM (Kd.R_below (by (with_reducible repeat (first|apply Kd.R_alloc|apply Kd.R_drewN|apply Kd.R_drew));exact HO260.out) hb);have n1_:=zM (blk_below (g:=gb254) (o:=.cells #[.int .i64 a0_0,.int .i64 a0_1] 23 (0,0)) (by (with_reducible repeat (first|refine bA ?_ _|refine bB ?_|refine bC ?_ _));exact BK254.out) hb);have n2_:=zM (bG (by repeat (first|(with_reducible first|exact HB.out|apply bE|apply bD|apply bF|refine below_set ?_ GE254.out)|exact HB.out)) hb);have n3_:=zM (hbox);have n4_:=zM ((by rw [hg];exact (below_size (by repeat (first|(with_reducible first|exact HB.out|apply bE|apply bD|apply bF|refine below_set ?_ GE254.out)|exact HB.out))):w.heap.size ≤ gb264));have n5_:=zM ((by rw [hg];exact (below_size (by repeat (first|(with_reducible first|exact HB.out|apply bE|apply bD|apply bF|refine below_set ?_ GE254.out)|exact HB.out))):w.heap.size ≤ gb264));have n6_:=zM ((by rw [hg];exact Nat.ne_of_lt (blk_lt (g:=gb254) (o:=.cells #[.int .i64 a0_0,.int .i64 a0_1] 23 (0,0)) (by (with_reducible repeat (first|refine bA ?_ _|refine bB ?_|refine bC ?_ _));exact BK254.out)):gb254 ≠ gb264));have n7_:=zM ((by rw [hg];exact Nat.ne_of_gt (blk_lt (g:=gb254) (o:=.cells #[.int .i64 a0_0,.int .i64 a0_1] 23 (0,0)) (by (with_reducible repeat (first|refine bA ?_ _|refine bB ?_|refine bC ?_ _));exact BK254.out)):gb264 ≠ gb254));clear HO260;clear BK254;clear HB;have HO260:=n0_;have BK254:=n1_;have HB:=n2_;have BK264:=n3_;have GW264:=n4_;have GE264:=n5_;have NB254_264:=n6_;have NB264_254:=n7_;clear n0_ n1_ n2_ n3_ n4_ n5_ n6_ n7_;clear hb hbox hg;have hnb21:=NB264_254.out;have hnc21:=NB254_264.out;have hcz22_0:w20.cell? ⟨gb264,0,none⟩ = some (.int .i64 0):=(blk_cell BK264.out 0).trans rfl;have hcz22_1:w20.cell? ⟨gb264,1,none⟩ = some (.int .i64 0):=(blk_cell BK264.out 1).trans rfl;have hfz22_0:=blk_frozen BK264.out 0;have hfz22_1:=blk_frozen BK264.out 1)|((with_reducible refine gate_callee (f:=15) rfl ?_);refine goesL_ (some 28) rfl rfl Try.func15 (by kernel_rfl) rfl #[.slice A1 l1.length c1] rfl (by (try simp only [List.map_toArray,List.map_cons,List.map_nil]);first|done|rfl) ?_;(with_reducible refine (laws_toMarkS.calls k _ _ l1 t265 _ ?side1 ?side2 A10.out).mono ?_);(case side1=>exact Kd.C_below HR1.out (by repeat (first|(with_reducible first|exact HB.out|apply bE|apply bD|apply bF|refine below_set ?_ GE254.out|refine below_set ?_ GE264.out)|exact HB.out)));(case side2=>exact HC1.out);rintro e w23 ⟨v266,rfl,ho0,hb⟩;refine ⟨_,rfl,?_⟩;have n0_:=zM (Kd.R_elder' (by (with_reducible repeat (first|apply Kd.R_alloc|apply Kd.R_drewN|apply Kd.R_drew));exact (Kd.R_mono (Kd.R_far (p:=⟨gb264,1,none⟩) (Kd.R_far (p:=⟨gb264,0,none⟩) (Kd.R_types HO260.out BK264.out (by decide)) (fun _ hk=>hk.2) (.int .i64 t261)) (fun _ hk=>hk.2) (.int .i64 t262)) (fun _ h_=>h_.1))) (Kd.R_base ho0) hb);have n1_:=zM (Kd.R_lower (Kd.R_new' ho0 (Kd.R_lt (by (with_reducible repeat (first|apply Kd.R_alloc|apply Kd.R_drewN|apply Kd.R_drew));exact (Kd.R_mono (Kd.R_far (p:=⟨gb264,1,none⟩) (Kd.R_far (p:=⟨gb264,0,none⟩) (Kd.R_types HO260.out BK264.out (by decide)) (fun _ hk=>hk.2) (.int .i64 t261)) (fun _ hk=>hk.2) (.int .i64 t262)) (fun _ h_=>h_.1))))) (below_size (by repeat (first|(with_reducible first|exact HB.out|apply bE|apply bD|apply bF|refine below_set ?_ GE254.out|refine below_set ?_ GE264.out)|exact HB.out))));have n2_:=zM (blk_below (g:=gb254) (o:=.cells #[.int .i64 a0_0,.int .i64 a0_1] 23 (0,0)) (by (with_reducible repeat (first|refine bA ?_ _|refine bB ?_|refine bC ?_ _));refine blk_far ?_ NB254_264.out _;(with_reducible repeat (first|refine bA ?_ _|refine bB ?_|refine bC ?_ _));refine blk_far ?_ NB254_264.out _;(with_reducible repeat (first|refine bA ?_ _|refine bB ?_|refine bC ?_ _));exact BK254.out) hb);have n3_:=zM (blk_below (g:=gb264) (o:=.cells #[.int .i64 t261,.int .i64 t262] 40 (0,0)) (by (with_reducible repeat (first|refine bA ?_ _|refine bB ?_|refine bC ?_ _));refine bH (cs:=#[.int .i64 t261,.int .i64 0]) ?_ 1 _ rfl;(with_reducible repeat (first|refine bA ?_ _|refine bB ?_|refine bC ?_ _));refine bH (cs:=#[.int .i64 0,.int .i64 0]) ?_ 0 _ rfl;(with_reducible repeat (first|refine bA ?_ _|refine bB ?_|refine bC ?_ _));exact BK264.out) hb);have n4_:=zM (bG (by repeat (first|(with_reducible first|exact HB.out|apply bE|apply bD|apply bF|refine below_set ?_ GE254.out|refine below_set ?_ GE264.out)|exact HB.out)) hb);clear HO260;clear BK254;clear BK264;clear HB;have HO260:=n0_;have HO267:=n1_;have BK254:=n2_;have BK264:=n3_;have HB:=n4_;clear n0_ n1_ n2_ n3_ n4_;(try clear hb);(try clear hk);(try clear hi);(try clear ho0);have hcz24_0:w23.cell? ⟨gb254,0,none⟩ = some (.int .i64 a0_0):=(blk_cell BK254.out 0).trans rfl;have hcz24_1:w23.cell? ⟨gb254,1,none⟩ = some (.int .i64 a0_1):=(blk_cell BK254.out 1).trans rfl;have hfz24_0:=blk_frozen BK254.out 0;have hfz24_1:=blk_frozen BK254.out 1)|((with_reducible refine gate_callee (f:=14) rfl ?_);refine goesL_ (some 31) rfl rfl Try.func14 (by kernel_rfl) rfl #[.agg #[.int .i64 a0_0,.int .i64 a0_1]] rfl (by (try simp only [List.map_toArray,List.map_cons,List.map_nil]);first|done|rfl) ?_;(with_reducible refine (laws_toDrift.calls a0_0 a0_1 t268 t269 _ A11.out).mono ?_);rintro e w25 ⟨rfl,hb⟩;refine ⟨_,rfl,?_⟩;have n0_:=zM (Kd.R_below (by (with_reducible repeat (first|apply Kd.R_alloc|apply Kd.R_drewN|apply Kd.R_drew));exact HO260.out) hb);have n1_:=zM (Kd.R_below (by (with_reducible repeat (first|apply Kd.R_alloc|apply Kd.R_drewN|apply Kd.R_drew));exact HO267.out) hb);have n2_:=zM (blk_below (g:=gb254) (o:=.cells #[.int .i64 a0_0,.int .i64 a0_1] 23 (0,0)) (by (with_reducible repeat (first|refine bA ?_ _|refine bB ?_|refine bC ?_ _));exact BK254.out) hb);have n3_:=zM (blk_below (g:=gb264) (o:=.cells #[.int .i64 t261,.int .i64 t262] 40 (0,0)) (by (with_reducible repeat (first|refine bA ?_ _|refine bB ?_|refine bC ?_ _));exact BK264.out) hb);have n4_:=zM (bG (by repeat (first|(with_reducible first|exact HB.out|apply bE|apply bD|apply bF|refine below_set ?_ GE254.out|refine below_set ?_ GE264.out)|exact HB.out)) hb);clear HO260;clear HO267;clear BK254;clear BK264;clear HB;have HO260:=n0_;have HO267:=n1_;have BK254:=n2_;have BK264:=n3_;have HB:=n4_;clear n0_ n1_ n2_ n3_ n4_;(try clear hb);(try clear hk);(try clear hi);obtain ⟨Ao26,co26,eo26⟩:=Kd.R_slice HO267.out;subst eo26)|((with_reducible refine gate_callee (f:=26) rfl ?_);refine goesL_ (some 34) rfl rfl Try.func26 (by kernel_rfl) rfl #[.agg #[.int .i64 t268,.int .i64 t269],.slice Ao26 t265.length co26,.int .i64 a2] rfl (by (try simp only [List.map_toArray,List.map_cons,List.map_nil]);first|done|rfl) ?_;(with_reducible refine (impl_CountWhen.calls k t268 t269 _ _ t265 a2 t270 t271 t272 _ ?side1 ?side2 A12.out).mono ?_);(case side1=>repeat (first|exact (Kd.R_reads' HO267.out).2.2|(with_reducible refine Kd.C_alloc ?_ _)|(with_reducible refine Kd.C_drewN ?_ _)|(with_reducible refine Kd.C_drew ?_)));(case side2=>exact (Kd.R_reads' HO267.out).2.1);rintro e w27 ⟨rfl,hb⟩;refine ⟨_,rfl,?_⟩;have n0_:=zM (Kd.R_below (by (with_reducible repeat (first|apply Kd.R_alloc|apply Kd.R_drewN|apply Kd.R_drew));exact HO260.out) hb);have n1_:=zM (Kd.R_below (by (with_reducible repeat (first|apply Kd.R_alloc|apply Kd.R_drewN|apply Kd.R_drew));exact HO267.out) hb);have n2_:=zM (blk_below (g:=gb254) (o:=.cells #[.int .i64 a0_0,.int .i64 a0_1] 23 (0,0)) (by (with_reducible repeat (first|refine bA ?_ _|refine bB ?_|refine bC ?_ _));exact BK254.out) hb);have n3_:=zM (blk_below (g:=gb264) (o:=.cells #[.int .i64 t261,.int .i64 t262] 40 (0,0)) (by (with_reducible repeat (first|refine bA ?_ _|refine bB ?_|refine bC ?_ _));exact BK264.out) hb);have n4_:=zM (bG (by repeat (first|(with_reducible first|exact HB.out|apply bE|apply bD|apply bF|refine below_set ?_ GE254.out|refine below_set ?_ GE264.out)|exact HB.out)) hb);clear HO260;clear HO267;clear BK254;clear BK264;clear HB;have HO260:=n0_;have HO267:=n1_;have BK254:=n2_;have BK264:=n3_;have HB:=n4_;clear n0_ n1_ n2_ n3_ n4_;(try clear hb);(try clear hk);(try clear hi))|((with_reducible refine gate_dst (N:=11) rfl ?_);refine box_event ?hg (N:=11) ?hd (cs:=#[.int .i64 0,.int .i64 0]) (t:=40) ?hr ?_;(case hd=>rfl);(case hg=>rfl);(case hr=>first|(go_simp;done)|(go_simp;rfl));intro gb273 hg w28 hbox hb;have n0_:=zM (Kd.R_below (by (with_reducible repeat (first|apply Kd.R_alloc|apply Kd.R_drewN|apply Kd.R_drew));exact HO260.out) hb);have n1_:=zM (Kd.R_below (by (with_reducible repeat (first|apply Kd.R_alloc|apply Kd.R_drewN|apply Kd.R_drew));exact HO267.out) hb);have n2_:=zM (blk_below (g:=gb254) (o:=.cells #[.int .i64 a0_0,.int .i64 a0_1] 23 (0,0)) (by (with_reducible repeat (first|refine bA ?_ _|refine bB ?_|refine bC ?_ _));exact BK254.out) hb);have n3_:=zM (blk_below (g:=gb264) (o:=.cells #[.int .i64 t261,.int .i64 t262] 40 (0,0)) (by (with_reducible repeat (first|refine bA ?_ _|refine bB ?_|refine bC ?_ _));exact BK264.out) hb);have n4_:=zM (bG (by repeat (first|(with_reducible first|exact HB.out|apply bE|apply bD|apply bF|refine below_set ?_ GE254.out|refine below_set ?_ GE264.out)|exact HB.out)) hb);have n5_:=zM (hbox);have n6_:=zM ((by rw [hg];exact (below_size (by repeat (first|(with_reducible first|exact HB.out|apply bE|apply bD|apply bF|refine below_set ?_ GE254.out|refine below_set ?_ GE264.out)|exact HB.out))):w.heap.size ≤ gb273));have n7_:=zM ((by rw [hg];exact (below_size (by repeat (first|(with_reducible first|exact HB.out|apply bE|apply bD|apply bF|refine below_set ?_ GE254.out|refine below_set ?_ GE264.out)|exact HB.out))):w.heap.size ≤ gb273));have n8_:=zM ((by rw [hg];exact Nat.ne_of_lt (blk_lt (g:=gb254) (o:=.cells #[.int .i64 a0_0,.int .i64 a0_1] 23 (0,0)) (by (with_reducible repeat (first|refine bA ?_ _|refine bB ?_|refine bC ?_ _));exact BK254.out)):gb254 ≠ gb273));have n9_:=zM ((by rw [hg];exact Nat.ne_of_gt (blk_lt (g:=gb254) (o:=.cells #[.int .i64 a0_0,.int .i64 a0_1] 23 (0,0)) (by (with_reducible repeat (first|refine bA ?_ _|refine bB ?_|refine bC ?_ _));exact BK254.out)):gb273 ≠ gb254));have n10_:=zM ((by rw [hg];exact Nat.ne_of_lt (blk_lt (g:=gb264) (o:=.cells #[.int .i64 t261,.int .i64 t262] 40 (0,0)) (by (with_reducible repeat (first|refine bA ?_ _|refine bB ?_|refine bC ?_ _));exact BK264.out)):gb264 ≠ gb273));have n11_:=zM ((by rw [hg];exact Nat.ne_of_gt (blk_lt (g:=gb264) (o:=.cells #[.int .i64 t261,.int .i64 t262] 40 (0,0)) (by (with_reducible repeat (first|refine bA ?_ _|refine bB ?_|refine bC ?_ _));exact BK264.out)):gb273 ≠ gb264));clear HO260;clear HO267;clear BK254;clear BK264;clear HB;have HO260:=n0_;have HO267:=n1_;have BK254:=n2_;have BK264:=n3_;have HB:=n4_;have BK273:=n5_;have GW273:=n6_;have GE273:=n7_;have NB254_273:=n8_;have NB273_254:=n9_;have NB264_273:=n10_;have NB273_264:=n11_;clear n0_ n1_ n2_ n3_ n4_ n5_ n6_ n7_ n8_ n9_ n10_ n11_;clear hb hbox hg;have hnb29:=NB273_254.out;have hnc29:=NB254_273.out;have hnb30:=NB273_264.out;have hnc30:=NB264_273.out;have hcz31_0:w28.cell? ⟨gb273,0,none⟩ = some (.int .i64 0):=(blk_cell BK273.out 0).trans rfl;have hcz31_1:w28.cell? ⟨gb273,1,none⟩ = some (.int .i64 0):=(blk_cell BK273.out 1).trans rfl;have hfz31_0:=blk_frozen BK273.out 0;have hfz31_1:=blk_frozen BK273.out 1))
  (try simp only [Act.put,zS,z0,z1])
  go_cut [45] (fun v45 wc=>∃ (kq:Nat) (x45_12:Bool),v45 = .bool x45_12 ∧ Aside0 (laws_FnExactCountWhen.j0 kq l1 t265 x45_12 = some r) ∧ Aside0 (kq ≤ k) ∧ Aside0 (Kd.R k38 38 wc w.heap.size (fun _=>True) (.slice Ao26 t265.length co26) t265) ∧ Aside0 (wc.heap[gb254]? = some (.cells #[.int .i64 a0_0,.int .i64 a0_1] 23 (0,0))) ∧ Aside0 (wc.heap[gb264]? = some (.cells #[.int .i64 t261,.int .i64 t262] 40 (0,0))) ∧ Aside0 (wc.heap[gb273]? = some (.cells #[.int .i64 t270,.int .i64 t271] 40 (0,0))) ∧ Aside0 (Below w.heap.size w wc))
  case first =>
   have H:=HC13.out
   clear HC13
   replace H:=zO H
   obtain ⟨t274,A320,H⟩:=H
   replace H:(if t274 = true then (laws_FnExactCountWhen.j0 k l1 t265 (t272 != t263)) else (laws_FnExactCountWhen.j0 k l1 t265 true)) = some r:=H
   have A32:=zM A320
   clear A320
   by_cases c33:t274 = true
   ·subst c33
    have H1:(laws_FnExactCountWhen.j0 k l1 t265 (t272 != t263)) = some r:=by rw [if_pos rfl] at H;exact H
    clear H
    have H:=H1
    clear H1
    have H':=zM H
    clear H
    have hnb34:=NB273_254.out
    have hnc34:=NB254_273.out
    have hnb35:=NB273_264.out
    have hnc35:=NB264_273.out
    have hcz36_0:w28.cell? ⟨gb273,0,none⟩ = some (.int .i64 0):=(blk_cell BK273.out 0).trans rfl
    have hcz36_1:w28.cell? ⟨gb273,1,none⟩ = some (.int .i64 0):=(blk_cell BK273.out 1).trans rfl
    have hfz36_0:=blk_frozen BK273.out 0
    have hfz36_1:=blk_frozen BK273.out 1
    have hnb37:=NB264_254.out
    have hnc37:=NB254_264.out
    have hcz38_0:w28.cell? ⟨gb264,0,none⟩ = some (.int .i64 t261):=(blk_cell BK264.out 0).trans rfl
    have hcz38_1:w28.cell? ⟨gb264,1,none⟩ = some (.int .i64 t262):=(blk_cell BK264.out 1).trans rfl
    have hfz38_0:=blk_frozen BK264.out 0
    have hfz38_1:=blk_frozen BK264.out 1
    go_wp2_with (first|((with_reducible refine gate_callee (f:=24) rfl ?_);refine goesL_ (some 39) rfl rfl Try.func24 (by kernel_rfl) rfl #[.agg #[.int .i64 t270,.int .i64 t271],.agg #[.int .i64 t261,.int .i64 t262]] rfl (by (try simp only [List.map_toArray,List.map_cons,List.map_nil]);first|done|rfl) ?_;(with_reducible refine (laws_eqIval.calls t270 t271 t261 t262 true _ A32.out).mono ?_);rintro e w39 ⟨rfl,hb⟩;refine ⟨_,rfl,?_⟩;have n0_:=zM (Kd.R_below (by (with_reducible repeat (first|apply Kd.R_alloc|apply Kd.R_drewN|apply Kd.R_drew));exact (Kd.R_mono (Kd.R_far (p:=⟨gb273,1,none⟩) (Kd.R_far (p:=⟨gb273,0,none⟩) (Kd.R_types HO260.out BK273.out (by decide)) (fun _ hk=>hk.2) (.int .i64 t270)) (fun _ hk=>hk.2) (.int .i64 t271)) (fun _ h_=>h_.1))) hb);have n1_:=zM (Kd.R_below (by (with_reducible repeat (first|apply Kd.R_alloc|apply Kd.R_drewN|apply Kd.R_drew));exact (Kd.R_mono (Kd.R_far (p:=⟨gb273,1,none⟩) (Kd.R_far (p:=⟨gb273,0,none⟩) (Kd.R_types HO267.out BK273.out (by decide)) (fun _ hk=>hk.2) (.int .i64 t270)) (fun _ hk=>hk.2) (.int .i64 t271)) (fun _ h_=>h_.1))) hb);have n2_:=zM (blk_below (g:=gb254) (o:=.cells #[.int .i64 a0_0,.int .i64 a0_1] 23 (0,0)) (by (with_reducible repeat (first|refine bA ?_ _|refine bB ?_|refine bC ?_ _));refine blk_far ?_ NB254_273.out _;(with_reducible repeat (first|refine bA ?_ _|refine bB ?_|refine bC ?_ _));refine blk_far ?_ NB254_273.out _;(with_reducible repeat (first|refine bA ?_ _|refine bB ?_|refine bC ?_ _));exact BK254.out) hb);have n3_:=zM (blk_below (g:=gb264) (o:=.cells #[.int .i64 t261,.int .i64 t262] 40 (0,0)) (by (with_reducible repeat (first|refine bA ?_ _|refine bB ?_|refine bC ?_ _));refine blk_far ?_ NB264_273.out _;(with_reducible repeat (first|refine bA ?_ _|refine bB ?_|refine bC ?_ _));refine blk_far ?_ NB264_273.out _;(with_reducible repeat (first|refine bA ?_ _|refine bB ?_|refine bC ?_ _));exact BK264.out) hb);have n4_:=zM (blk_below (g:=gb273) (o:=.cells #[.int .i64 t270,.int .i64 t271] 40 (0,0)) (by (with_reducible repeat (first|refine bA ?_ _|refine bB ?_|refine bC ?_ _));refine bH (cs:=#[.int .i64 t270,.int .i64 0]) ?_ 1 _ rfl;(with_reducible repeat (first|refine bA ?_ _|refine bB ?_|refine bC ?_ _));refine bH (cs:=#[.int .i64 0,.int .i64 0]) ?_ 0 _ rfl;(with_reducible repeat (first|refine bA ?_ _|refine bB ?_|refine bC ?_ _));exact BK273.out) hb);have n5_:=zM (bG (by repeat (first|(with_reducible first|exact HB.out|apply bE|apply bD|apply bF|refine below_set ?_ GE254.out|refine below_set ?_ GE264.out|refine below_set ?_ GE273.out)|exact HB.out)) hb);clear HO260;clear HO267;clear BK254;clear BK264;clear BK273;clear HB;have HO260:=n0_;have HO267:=n1_;have BK254:=n2_;have BK264:=n3_;have BK273:=n4_;have HB:=n5_;clear n0_ n1_ n2_ n3_ n4_ n5_;(try clear hb);(try clear hk);(try clear hi)))
    go_meet
    case rel=>exact ⟨_,((t272 != t263)),(by first|rfl|(simp;done)|(simp [*];done)),H',⟨by first|omega|exact Nat.le_refl _⟩,⟨by (with_reducible repeat (first|apply Kd.R_alloc|apply Kd.R_drewN|apply Kd.R_drew));exact Kd.R_mono HO267.out (fun _ hk=>trivial)⟩,⟨by (with_reducible repeat (first|refine bA ?_ _|refine bB ?_|refine bC ?_ _));exact BK254.out⟩,⟨by (with_reducible repeat (first|refine bA ?_ _|refine bB ?_|refine bC ?_ _));exact BK264.out⟩,⟨by (with_reducible repeat (first|refine bA ?_ _|refine bB ?_|refine bC ?_ _));exact BK273.out⟩,⟨by repeat (first|(with_reducible first|exact HB.out|apply bE|apply bD|apply bF|refine below_set ?_ GE254.out|refine below_set ?_ GE264.out|refine below_set ?_ GE273.out)|exact HB.out)⟩⟩
   ·replace c33:=Bool.eq_false_iff.mpr c33
    subst c33
    have H1:(laws_FnExactCountWhen.j0 k l1 t265 true) = some r:=by rw [if_neg (show ¬ (false = true) by decide)] at H;exact H
    clear H
    have H:=H1
    clear H1
    have H':=zM H
    clear H
    have hnb40:=NB273_254.out
    have hnc40:=NB254_273.out
    have hnb41:=NB273_264.out
    have hnc41:=NB264_273.out
    have hcz42_0:w28.cell? ⟨gb273,0,none⟩ = some (.int .i64 0):=(blk_cell BK273.out 0).trans rfl
    have hcz42_1:w28.cell? ⟨gb273,1,none⟩ = some (.int .i64 0):=(blk_cell BK273.out 1).trans rfl
    have hfz42_0:=blk_frozen BK273.out 0
    have hfz42_1:=blk_frozen BK273.out 1
    have hnb43:=NB264_254.out
    have hnc43:=NB254_264.out
    have hcz44_0:w28.cell? ⟨gb264,0,none⟩ = some (.int .i64 t261):=(blk_cell BK264.out 0).trans rfl
    have hcz44_1:w28.cell? ⟨gb264,1,none⟩ = some (.int .i64 t262):=(blk_cell BK264.out 1).trans rfl
    have hfz44_0:=blk_frozen BK264.out 0
    have hfz44_1:=blk_frozen BK264.out 1
    go_wp2_with (first|((with_reducible refine gate_callee (f:=24) rfl ?_);refine goesL_ (some 39) rfl rfl Try.func24 (by kernel_rfl) rfl #[.agg #[.int .i64 t270,.int .i64 t271],.agg #[.int .i64 t261,.int .i64 t262]] rfl (by (try simp only [List.map_toArray,List.map_cons,List.map_nil]);first|done|rfl) ?_;(with_reducible refine (laws_eqIval.calls t270 t271 t261 t262 false _ A32.out).mono ?_);rintro e w45 ⟨rfl,hb⟩;refine ⟨_,rfl,?_⟩;have n0_:=zM (Kd.R_below (by (with_reducible repeat (first|apply Kd.R_alloc|apply Kd.R_drewN|apply Kd.R_drew));exact (Kd.R_mono (Kd.R_far (p:=⟨gb273,1,none⟩) (Kd.R_far (p:=⟨gb273,0,none⟩) (Kd.R_types HO260.out BK273.out (by decide)) (fun _ hk=>hk.2) (.int .i64 t270)) (fun _ hk=>hk.2) (.int .i64 t271)) (fun _ h_=>h_.1))) hb);have n1_:=zM (Kd.R_below (by (with_reducible repeat (first|apply Kd.R_alloc|apply Kd.R_drewN|apply Kd.R_drew));exact (Kd.R_mono (Kd.R_far (p:=⟨gb273,1,none⟩) (Kd.R_far (p:=⟨gb273,0,none⟩) (Kd.R_types HO267.out BK273.out (by decide)) (fun _ hk=>hk.2) (.int .i64 t270)) (fun _ hk=>hk.2) (.int .i64 t271)) (fun _ h_=>h_.1))) hb);have n2_:=zM (blk_below (g:=gb254) (o:=.cells #[.int .i64 a0_0,.int .i64 a0_1] 23 (0,0)) (by (with_reducible repeat (first|refine bA ?_ _|refine bB ?_|refine bC ?_ _));refine blk_far ?_ NB254_273.out _;(with_reducible repeat (first|refine bA ?_ _|refine bB ?_|refine bC ?_ _));refine blk_far ?_ NB254_273.out _;(with_reducible repeat (first|refine bA ?_ _|refine bB ?_|refine bC ?_ _));exact BK254.out) hb);have n3_:=zM (blk_below (g:=gb264) (o:=.cells #[.int .i64 t261,.int .i64 t262] 40 (0,0)) (by (with_reducible repeat (first|refine bA ?_ _|refine bB ?_|refine bC ?_ _));refine blk_far ?_ NB264_273.out _;(with_reducible repeat (first|refine bA ?_ _|refine bB ?_|refine bC ?_ _));refine blk_far ?_ NB264_273.out _;(with_reducible repeat (first|refine bA ?_ _|refine bB ?_|refine bC ?_ _));exact BK264.out) hb);have n4_:=zM (blk_below (g:=gb273) (o:=.cells #[.int .i64 t270,.int .i64 t271] 40 (0,0)) (by (with_reducible repeat (first|refine bA ?_ _|refine bB ?_|refine bC ?_ _));refine bH (cs:=#[.int .i64 t270,.int .i64 0]) ?_ 1 _ rfl;(with_reducible repeat (first|refine bA ?_ _|refine bB ?_|refine bC ?_ _));refine bH (cs:=#[.int .i64 0,.int .i64 0]) ?_ 0 _ rfl;(with_reducible repeat (first|refine bA ?_ _|refine bB ?_|refine bC ?_ _));exact BK273.out) hb);have n5_:=zM (bG (by repeat (first|(with_reducible first|exact HB.out|apply bE|apply bD|apply bF|refine below_set ?_ GE254.out|refine below_set ?_ GE264.out|refine below_set ?_ GE273.out)|exact HB.out)) hb);clear HO260;clear HO267;clear BK254;clear BK264;clear BK273;clear HB;have HO260:=n0_;have HO267:=n1_;have BK254:=n2_;have BK264:=n3_;have BK273:=n4_;have HB:=n5_;clear n0_ n1_ n2_ n3_ n4_ n5_;(try clear hb);(try clear hk);(try clear hi)))
    go_meet
    case rel=>exact ⟨_,(true),(by first|rfl|(simp;done)|(simp [*];done)),H',⟨by first|omega|exact Nat.le_refl _⟩,⟨by (with_reducible repeat (first|apply Kd.R_alloc|apply Kd.R_drewN|apply Kd.R_drew));exact Kd.R_mono HO267.out (fun _ hk=>trivial)⟩,⟨by (with_reducible repeat (first|refine bA ?_ _|refine bB ?_|refine bC ?_ _));exact BK254.out⟩,⟨by (with_reducible repeat (first|refine bA ?_ _|refine bB ?_|refine bC ?_ _));exact BK264.out⟩,⟨by (with_reducible repeat (first|refine bA ?_ _|refine bB ?_|refine bC ?_ _));exact BK273.out⟩,⟨by repeat (first|(with_reducible first|exact HB.out|apply bE|apply bD|apply bF|refine below_set ?_ GE254.out|refine below_set ?_ GE264.out|refine below_set ?_ GE273.out)|exact HB.out)⟩⟩
  case rest =>
   clear HC13
   try clear c1
   try clear c2
   try clear p2
   try clear c3
   try clear c4
   try clear c5
   try clear c5b0
   try clear c7
   try clear c12
   try clear c14
   try clear c15
   try clear c21
   try clear c24
   try clear c25
   try clear c26
   try clear c29
   try clear c30
   try clear c33
   try clear c34
   try clear c35
   try clear c37
   try clear c40
   try clear c41
   try clear c43
   try clear hcz15_0
   try clear hcz15_1
   try clear hcz22_0
   try clear hcz22_1
   try clear hcz24_0
   try clear hcz24_1
   try clear hcz31_0
   try clear hcz31_1
   try clear hcz36_0
   try clear hcz36_1
   try clear hcz38_0
   try clear hcz38_1
   try clear hcz42_0
   try clear hcz42_1
   try clear hcz44_0
   try clear hcz44_1
   try clear hfz15_0
   try clear hfz15_1
   try clear hfz22_0
   try clear hfz22_1
   try clear hfz24_0
   try clear hfz24_1
   try clear hfz31_0
   try clear hfz31_1
   try clear hfz36_0
   try clear hfz36_1
   try clear hfz38_0
   try clear hfz38_1
   try clear hfz42_0
   try clear hfz42_1
   try clear hfz44_0
   try clear hfz44_1
   obtain ⟨kq,x45_12,rfl,HA,HJ12,HO_10,BK254,BK264,BK273,HB⟩:=hcut
   cases kq with
   | zero=>exact absurd HA.out (by simp [laws_FnExactCountWhen.j0])
   | succ kj12 =>
    have H:=HA.out
    clear HA
    simp only [laws_FnExactCountWhen.j0] at H
    by_cases c46:x45_12 = true
    ·subst c46
     have H1:(some false) = some r:=by rw [if_pos rfl] at H;exact H
     clear H
     have H:=H1
     clear H1
     obtain rfl:=Option.some.inj H
     exact absurd HR.out (by decide)
    ·replace c46:=Bool.eq_false_iff.mpr c46
     subst c46
     have H1:((laws_toMarkS.f kj12 l1).bind fun t275=>((laws_eqMarkS.f kj12 t265 t275).bind fun t278=>(if t278 = true then (some true) else (some false)))) = some r:=by rw [if_neg (show ¬ (false = true) by decide)] at H;exact H
     clear H
     have H:=H1
     clear H1
     replace H:=zO H
     obtain ⟨t275,A470,H⟩:=H
     replace H:((laws_eqMarkS.f kj12 t265 t275).bind fun t278=>(if t278 = true then (some true) else (some false))) = some r:=H
     have A47:=zM A470
     clear A470
     replace H:=zO H
     obtain ⟨t278,A480,H⟩:=H
     replace H:(if t278 = true then (some true) else (some false)) = some r:=H
     have A48:=zM A480
     clear A480
     by_cases c49:t278 = true
     ·subst c49
      have H1:(some true) = some r:=by rw [if_pos rfl] at H;exact H
      clear H
      have H:=H1
      clear H1
      obtain rfl:=Option.some.inj H
      simp only [zI,zJ] at H
      obtain ⟨rfl⟩:=H
      go_wp2_with (first|((with_reducible refine gate_callee (f:=15) rfl ?_);refine goesL_ (some 48) rfl rfl Try.func15 (by kernel_rfl) rfl #[.slice A1 l1.length c1] rfl (by (try simp only [List.map_toArray,List.map_cons,List.map_nil]);first|done|rfl) ?_;(with_reducible refine (laws_toMarkS.calls kj12 _ _ l1 t275 _ ?side1 ?side2 A47.out).mono ?_);(case side1=>repeat (first|exact (Kd.C_below HR1.out HB.out)|(with_reducible refine Kd.C_alloc ?_ _)|(with_reducible refine Kd.C_drewN ?_ _)|(with_reducible refine Kd.C_drew ?_)));(case side2=>exact HC1.out);rintro e w50 ⟨v276,rfl,ho0,hb⟩;refine ⟨_,rfl,?_⟩;have n0_:=zM (Kd.R_elder' (by (with_reducible repeat (first|apply Kd.R_alloc|apply Kd.R_drewN|apply Kd.R_drew));exact HO_10.out) (Kd.R_base ho0) hb);have n1_:=zM (Kd.R_lower (Kd.R_new' ho0 (Kd.R_lt (by (with_reducible repeat (first|apply Kd.R_alloc|apply Kd.R_drewN|apply Kd.R_drew));exact HO_10.out))) (below_size (by repeat (first|(with_reducible first|exact HB.out|apply bE|apply bD|apply bF|refine below_set ?_ GE254.out|refine below_set ?_ GE264.out|refine below_set ?_ GE273.out)|exact HB.out))));have n2_:=zM (blk_below (g:=gb254) (o:=.cells #[.int .i64 a0_0,.int .i64 a0_1] 23 (0,0)) (by (with_reducible repeat (first|refine bA ?_ _|refine bB ?_|refine bC ?_ _));exact BK254.out) hb);have n3_:=zM (blk_below (g:=gb264) (o:=.cells #[.int .i64 t261,.int .i64 t262] 40 (0,0)) (by (with_reducible repeat (first|refine bA ?_ _|refine bB ?_|refine bC ?_ _));exact BK264.out) hb);have n4_:=zM (blk_below (g:=gb273) (o:=.cells #[.int .i64 t270,.int .i64 t271] 40 (0,0)) (by (with_reducible repeat (first|refine bA ?_ _|refine bB ?_|refine bC ?_ _));exact BK273.out) hb);have n5_:=zM (bG (by repeat (first|(with_reducible first|exact HB.out|apply bE|apply bD|apply bF|refine below_set ?_ GE254.out|refine below_set ?_ GE264.out|refine below_set ?_ GE273.out)|exact HB.out)) hb);clear HO_10;clear BK254;clear BK264;clear BK273;clear HB;have HO_10:=n0_;have HO277:=n1_;have BK254:=n2_;have BK264:=n3_;have BK273:=n4_;have HB:=n5_;clear n0_ n1_ n2_ n3_ n4_ n5_;(try clear hb);(try clear hk);(try clear hi);(try clear ho0);obtain ⟨Ao51,co51,eo51⟩:=Kd.R_slice HO277.out;subst eo51)|((with_reducible refine gate_callee (f:=17) rfl ?_);refine goesL_ (some 49) rfl rfl Try.func17 (by kernel_rfl) rfl #[.slice Ao26 t265.length co26,.slice Ao51 t275.length co51] rfl (by (try simp only [List.map_toArray,List.map_cons,List.map_nil]);first|done|rfl) ?_;(with_reducible refine (laws_eqMarkS.calls kj12 _ _ t265 _ _ t275 true _ ?side1 ?side2 ?side3 ?side4 A48.out).mono ?_);(case side1=>repeat (first|exact (Kd.R_reads' HO_10.out).2.2|(with_reducible refine Kd.C_alloc ?_ _)|(with_reducible refine Kd.C_drewN ?_ _)|(with_reducible refine Kd.C_drew ?_)));(case side2=>exact (Kd.R_reads' HO_10.out).2.1);(case side3=>repeat (first|exact (Kd.R_reads' HO277.out).2.2|(with_reducible refine Kd.C_alloc ?_ _)|(with_reducible refine Kd.C_drewN ?_ _)|(with_reducible refine Kd.C_drew ?_)));(case side4=>exact (Kd.R_reads' HO277.out).2.1);rintro e w52 ⟨rfl,hb⟩;refine ⟨_,rfl,?_⟩;have n0_:=zM (Kd.R_below (by (with_reducible repeat (first|apply Kd.R_alloc|apply Kd.R_drewN|apply Kd.R_drew));exact HO_10.out) hb);have n1_:=zM (Kd.R_below (by (with_reducible repeat (first|apply Kd.R_alloc|apply Kd.R_drewN|apply Kd.R_drew));exact HO277.out) hb);have n2_:=zM (blk_below (g:=gb254) (o:=.cells #[.int .i64 a0_0,.int .i64 a0_1] 23 (0,0)) (by (with_reducible repeat (first|refine bA ?_ _|refine bB ?_|refine bC ?_ _));exact BK254.out) hb);have n3_:=zM (blk_below (g:=gb264) (o:=.cells #[.int .i64 t261,.int .i64 t262] 40 (0,0)) (by (with_reducible repeat (first|refine bA ?_ _|refine bB ?_|refine bC ?_ _));exact BK264.out) hb);have n4_:=zM (blk_below (g:=gb273) (o:=.cells #[.int .i64 t270,.int .i64 t271] 40 (0,0)) (by (with_reducible repeat (first|refine bA ?_ _|refine bB ?_|refine bC ?_ _));exact BK273.out) hb);have n5_:=zM (bG (by repeat (first|(with_reducible first|exact HB.out|apply bE|apply bD|apply bF|refine below_set ?_ GE254.out|refine below_set ?_ GE264.out|refine below_set ?_ GE273.out)|exact HB.out)) hb);clear HO_10;clear HO277;clear BK254;clear BK264;clear BK273;clear HB;have HO_10:=n0_;have HO277:=n1_;have BK254:=n2_;have BK264:=n3_;have BK273:=n4_;have HB:=n5_;clear n0_ n1_ n2_ n3_ n4_ n5_;(try clear hb);(try clear hk);(try clear hi)))
      go_ret
      exact ⟨by first|rfl|(simp [*,errW_none,errW_some] <;> rfl),by repeat (first|(with_reducible first|exact HB.out|apply bE|apply bD|apply bF|refine below_set ?_ GE254.out|refine below_set ?_ GE264.out|refine below_set ?_ GE273.out)|exact HB.out)⟩
     ·replace c49:=Bool.eq_false_iff.mpr c49
      subst c49
      have H1:(some false) = some r:=by rw [if_neg (show ¬ (false = true) by decide)] at H;exact H
      clear H
      have H:=H1
      clear H1
      obtain rfl:=Option.some.inj H
      exact absurd HR.out (by decide)

end Go.Proofs.Ytlikojcfjamgpaa.XFnExactCountWhen
