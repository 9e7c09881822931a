/- The statement FnExactCountWhen: for every input the law returns true, and each argument reads behind the call as it read before. No condition. The row: its arguments are opened by the lemmas of YtlikojcfjamgpaaOpen, the walk is the printed one, the numbers are YtlikojcfjamgpaaPureFnExactCountWhen's. -/
import Derived.Test.YtlikojcfjamgpaaRows
import Derived.Test.YtlikojcfjamgpaaTECountWhenXFnExactCountWhenx8
import Derived.Test.YtlikojcfjamgpaaTECountWhenOpen
import Derived.Test.YtlikojcfjamgpaaTECountWhenPureFnExactCountWhen
import Derived.WalkKit
import Derived.ProofKit
import Derived.OpenShut
import Derived.ShutString
import Derived.ChangeOld
import Derived.Below
import Derived.SizedLaws
namespace Go.Proofs.Ytlikojcfjamgpaa.fnExactCountWhen
open Go.ChangeShapes Go.WideShapes Go.ChangeAt Go.RowKit Go.Proofs.YtlikojcfjamgpaaW.PrintWords Go.Proofs.Ytlikojcfjamgpaa.Open
open Go.ChangeMaps (open_string shut_string)
set_option linter.unusedVariables false
set_option linter.unusedSimpArgs false
theorem own : ownKnob Try.prog.godebug = none := by kernel_rfl
theorem laidOut : laidOutB Try.prog = true := by kernel_rfl
theorem rd3 : Rd Try.prog 3 (Kd.int .i64) (fun x => (Lit.int .i64 x).wf = true) := rd_int Try.underlying3
theorem rd23 : Rd Try.prog 23 (Kd.iso (Kd.pair (Kd.int .i64) (Kd.int .i64)) id) (fun x => (fun x => (Lit.int .i64 x).wf = true) x.1 ∧ (fun x => (Lit.int .i64 x).wf = true) x.2) := rd_struct Try.underlying23 (by kernel_rfl) (fl_cons rd3 rfl (by kernel_rfl) (fl_one rd3 rfl (by kernel_rfl))) id id (fun _ => rfl)
theorem rd69 : Rd Try.prog 69 XFnExactCountWhen.k69 (fun x : XFnExactCountWhen.S69 => (fun x => (Lit.int .i64 x).wf = true) x.f0 ∧ (fun x => (Lit.int .i64 x).wf = true) x.f1) := rd_struct Try.underlying69 (by kernel_rfl) (fl_cons rd3 rfl (by kernel_rfl) (fl_one rd3 rfl (by kernel_rfl))) (fun x : XFnExactCountWhen.S69 => (x.f0, x.f1)) (fun p => ⟨p.1, p.2⟩) (fun _ => rfl)
theorem rd24 : Rd Try.prog 24 (Kd.slice 69 XFnExactCountWhen.k69) (fun l => ∀ x ∈ l, (fun x : XFnExactCountWhen.S69 => (fun x => (Lit.int .i64 x).wf = true) x.f0 ∧ (fun x => (Lit.int .i64 x).wf = true) x.f1) x) := rd_slice Try.underlying24 (by kernel_rfl) rd69
set_option maxRecDepth 100000 in
theorem lifted (os : Os) (started : os.Started) (H : Type) (enc : TypeId × Value → H) :
    ReturnsInHanded {} Try.checked os 7 .any (Rows.fnExactCountWhenSpec.pre6 enc Try.prog Try.f7 Rows.fnExactCountWhenRow.domain false) (Rows.fnExactCountWhenSpec.post enc Try.prog Try.f7 false true false false) := by
  refine returnsInHanded_of_change_sized (C := Try.checked) own started (by kernel_rfl) Try.func7
    (ChangeSpec.witness6 (enc := enc) (C := Try.checked) false ⟨#[], #[.agg #[.int .i64 0, .int .i64 0], .slice none 0 0, .int .i64 0], []⟩ 8 (by kernel_rfl) (by kernel_rfl) (by kernel_rfl) (by kernel_rfl)) ?_
  intro W base args ds gs before hval0 hW hcnd hsz0 _
  have hsz : (DataW.weightsEach Try.prog (Try.f7.params.toList ++ Rows.fnExactCountWhenSpec.plain.varTypes Try.prog) (ds ++ gs)).all (· ≤ reachBytes) = true := hsz0
  have hval : ∀ (j : Nat) t v, Try.f7.params[j]? = some t → args[j]? = some v → Value.okWide Try.prog W .any base t v := hval0
  have hW' := hW
  obtain ⟨p, q, hA0, hV, rfl, hfz, hnd⟩ := hW
  have hA : DataW.TrodAll enc Try.prog W 0 (fun _ => true) true Try.f7.params.toList args.toList ds p := hA0
  rw [Try.params7] at hA hval hsz
  obtain ⟨v0, vs0, d0, ds0, p0, q0, hargs, rfl, rfl, h0, r0⟩ := trodAll_cons hA
  obtain ⟨v1, vs1, d1, ds1, p1, q1, rfl, rfl, rfl, h1, r1⟩ := trodAll_cons r0
  obtain ⟨v2, vs2, d2, ds2, p2, q2, rfl, rfl, rfl, h2, r2⟩ := trodAll_cons r1
  obtain ⟨rfl, rfl, rfl⟩ := trodAll_nil r2
  obtain rfl : args = #[v0, v1, v2] := by cases args; simp_all
  obtain ⟨rfl, rfl⟩ := trodVars_none hV
  have k0 := h0
  have lt0 : ∀ x ∈ p0, x.block < W.heap.size := by obtain ⟨m, hm⟩ := k0; exact DataW.trod_lt m _ _ _ hm
  obtain ⟨u0, cs0, rfl, hk0, w0⟩ := open_agg rd23 Try.underlying23 (hval 0 23 v0 rfl rfl) h0
  obtain ⟨a0_0, a0_1⟩ := u0
  obtain ⟨_, _, e0, rfl, rfl⟩ := hk0
  obtain rfl : cs0 = #[.int .i64 a0_0, .int .i64 a0_1] := by cases cs0; simpa using e0
  clear e0
  have k1 := h1
  have lt1 : ∀ x ∈ p1, x.block < W.heap.size := by obtain ⟨m, hm⟩ := k1; exact DataW.trod_lt m _ _ _ hm
  obtain ⟨A1, c1, l1, rfl, hc1, hr1, w1⟩ := open_row rd24 Try.underlying24 (hval 1 24 v1 rfl rfl) h1
  have m1 : l1.length ≤ 9223372036854775807 := hr1.2.1
  obtain ⟨a2, rfl, rfl, rfl, w2⟩ := open_int Try.underlying3 (hval 2 3 v2 rfl rfl) h2
  clear hA0 hval0 hsz0 hsz
  obtain ⟨k, h⟩ := Pure.FnExactCountWhen a0_0 a0_1 l1 a2 w0 w1 m1 w2
  refine (XFnExactCountWhen.laws_FnExactCountWhen.calls k a0_0 a0_1 A1 c1 l1 a2 true W hr1 hc1 (Aside0.mk rfl) h).mono fun e W' ⟨he, bel0⟩ => ?_
  have bel : Below W.heap.size W W' := bel0
  subst he
  exact ⟨_, rfl, _, _, _, [], _, [], hW', trodAll_mk1 (shut_bool Try.underlying4 _), (trodAll_cons_mk (Below.trod laidOut (by kernel_rfl) (of_decide_eq_true (by kernel_rfl)) k0 bel lt0) (trodAll_cons_mk (Below.trod laidOut (by kernel_rfl) (of_decide_eq_true (by kernel_rfl)) k1 bel lt1) (trodAll_cons_mk (shut_int Try.underlying3 w2) trodAll_mk0))), rfl, bel.frame _, fun h => by cases h⟩
theorem over : Rows.fnExactCountWhenRow.holds Try.pinned (OpenSpec.ofChange Rows.fnExactCountWhenSpec) :=
  OpenClaim.holds_of_wide 7 Try.f7 rfl rfl rfl rfl rfl rfl rfl ⟨rfl, rfl, rfl, rfl, rfl⟩ rfl rfl rfl rfl rfl (by kernel_rfl) Try.func7 (by kernel_rfl)
    (of_decide_eq_true (by kernel_rfl)) (by unfold Func.isWrapper; first | (rw [if_pos (by decide +kernel)]; kernel_rfl) | (rw [if_neg (by decide +kernel)]; exact ⟨rfl, rfl⟩))
    (fun os started H enc _ => lifted os started H enc)
end Go.Proofs.Ytlikojcfjamgpaa.fnExactCountWhen
namespace Go.Proofs.Ytlikojcfjamgpaa
theorem fnExactCountWhen_holds : Rows.FnExactCountWhenSaid := fnExactCountWhen.over
#print axioms fnExactCountWhen_holds
end Go.Proofs.Ytlikojcfjamgpaa
