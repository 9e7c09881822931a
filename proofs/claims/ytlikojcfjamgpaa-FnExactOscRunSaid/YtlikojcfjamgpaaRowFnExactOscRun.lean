/- The statement FnExactOscRun: for every input the law returns true, and each argument reads behind the call as it read before. No condition. The row: its arguments are opened by the lemmas of YtlikojcfjamgpaaOpen, the walk is the printed one, the numbers are YtlikojcfjamgpaaPureFnExactOscRun's. -/
import Derived.Test.YtlikojcfjamgpaaRows
import Derived.Test.YtlikojcfjamgpaaXFnExactOscRunx7
import Derived.Test.YtlikojcfjamgpaaOpen
import Derived.Test.YtlikojcfjamgpaaPureFnExactOscRun
import Derived.WalkKit
import Derived.ProofKit
import Derived.OpenShut
import Derived.ShutString
import Derived.ChangeOld
import Derived.Below
import Derived.SizedLaws
namespace Go.Proofs.Ytlikojcfjamgpaa.fnExactOscRun
open Go.ChangeShapes Go.WideShapes Go.ChangeAt Go.RowKit Go.Proofs.YtlikojcfjamgpaaW.PrintWords Go.Proofs.Ytlikojcfjamgpaa.Open
open Go.ChangeMaps (open_string shut_string)
set_option linter.unusedVariables false
set_option linter.unusedSimpArgs false
theorem own : ownKnob Try.prog.godebug = none := by kernel_rfl
theorem laidOut : laidOutB Try.prog = true := by kernel_rfl
theorem rd3 : Rd Try.prog 3 (Kd.int .i64) (fun x => (Lit.int .i64 x).wf = true) := rd_int Try.underlying3
theorem rd23 : Rd Try.prog 23 (Kd.iso (Kd.pair (Kd.int .i64) (Kd.int .i64)) id) (fun x => (fun x => (Lit.int .i64 x).wf = true) x.1 ∧ (fun x => (Lit.int .i64 x).wf = true) x.2) := rd_struct Try.underlying23 (by kernel_rfl) (fl_cons rd3 rfl (by kernel_rfl) (fl_one rd3 rfl (by kernel_rfl))) id id (fun _ => rfl)
theorem rd48 : Rd Try.prog 48 (Kd.iso (Kd.pair (Kd.iso (Kd.pair (Kd.int .i64) (Kd.int .i64)) id) (Kd.pair (Kd.int .i64) (Kd.int .i64))) id) (fun x => (fun x => (fun x => (Lit.int .i64 x).wf = true) x.1 ∧ (fun x => (Lit.int .i64 x).wf = true) x.2) x.1 ∧ (fun x => (Lit.int .i64 x).wf = true) x.2.1 ∧ (fun x => (Lit.int .i64 x).wf = true) x.2.2) := rd_struct Try.underlying48 (by kernel_rfl) (fl_cons rd23 rfl (by kernel_rfl) (fl_cons rd3 rfl (by kernel_rfl) (fl_one rd3 rfl (by kernel_rfl)))) id id (fun _ => rfl)
theorem rd88 : Rd Try.prog 88 XFnExactOscRun.k88 (fun x : XFnExactOscRun.S88 => (fun x => (Lit.int .i64 x).wf = true) x.f0 ∧ (fun x => (Lit.int .i64 x).wf = true) x.f1) := rd_struct Try.underlying88 (by kernel_rfl) (fl_cons rd3 rfl (by kernel_rfl) (fl_one rd3 rfl (by kernel_rfl))) (fun x : XFnExactOscRun.S88 => (x.f0, x.f1)) (fun p => ⟨p.1, p.2⟩) (fun _ => rfl)
theorem rd49 : Rd Try.prog 49 (Kd.slice 88 XFnExactOscRun.k88) (fun l => ∀ x ∈ l, (fun x : XFnExactOscRun.S88 => (fun x => (Lit.int .i64 x).wf = true) x.f0 ∧ (fun x => (Lit.int .i64 x).wf = true) x.f1) x) := rd_slice Try.underlying49 (by kernel_rfl) rd88
set_option maxRecDepth 100000 in
theorem lifted (os : Os) (started : os.Started) (H : Type) (enc : TypeId × Value → H) :
    ReturnsInHanded {} Try.checked os 9 .any (Rows.fnExactOscRunSpec.pre6 enc Try.prog Try.f9 Rows.fnExactOscRunRow.domain false) (Rows.fnExactOscRunSpec.post enc Try.prog Try.f9 false true false false) := by
  refine returnsInHanded_of_change_sized (C := Try.checked) own started (by kernel_rfl) Try.func9
    (ChangeSpec.witness6 (enc := enc) (C := Try.checked) false ⟨#[], #[.agg #[.int .i64 0, .int .i64 0, .int .i64 0, .int .i64 0], .slice none 0 0], []⟩ 8 (by kernel_rfl) (by kernel_rfl) (by kernel_rfl) (by kernel_rfl)) ?_
  intro W base args ds gs before hval0 hW hcnd hsz0 _
  have hsz : (DataW.weightsEach Try.prog (Try.f9.params.toList ++ Rows.fnExactOscRunSpec.plain.varTypes Try.prog) (ds ++ gs)).all (· ≤ reachBytes) = true := hsz0
  have hval : ∀ (j : Nat) t v, Try.f9.params[j]? = some t → args[j]? = some v → Value.okWide Try.prog W .any base t v := hval0
  have hW' := hW
  obtain ⟨p, q, hA0, hV, rfl, hfz, hnd⟩ := hW
  have hA : DataW.TrodAll enc Try.prog W 0 (fun _ => true) true Try.f9.params.toList args.toList ds p := hA0
  rw [Try.params9] at hA hval hsz
  obtain ⟨v0, vs0, d0, ds0, p0, q0, hargs, rfl, rfl, h0, r0⟩ := trodAll_cons hA
  obtain ⟨v1, vs1, d1, ds1, p1, q1, rfl, rfl, rfl, h1, r1⟩ := trodAll_cons r0
  obtain ⟨rfl, rfl, rfl⟩ := trodAll_nil r1
  obtain rfl : args = #[v0, v1] := by cases args; simp_all
  obtain ⟨rfl, rfl⟩ := trodVars_none hV
  have k0 := h0
  have lt0 : ∀ x ∈ p0, x.block < W.heap.size := by obtain ⟨m, hm⟩ := k0; exact DataW.trod_lt m _ _ _ hm
  obtain ⟨u0, cs0, rfl, hk0, w0⟩ := open_agg rd48 Try.underlying48 (hval 0 48 v0 rfl rfl) h0
  obtain ⟨⟨a0_0, a0_1⟩, a0_2, a0_3⟩ := u0
  obtain ⟨_, _, e0, ⟨_, _, rfl, rfl, rfl⟩, ⟨_, _, rfl, rfl, rfl⟩⟩ := hk0
  obtain rfl : cs0 = #[.int .i64 a0_0, .int .i64 a0_1, .int .i64 a0_2, .int .i64 a0_3] := by cases cs0; simpa using e0
  clear e0
  have k1 := h1
  have lt1 : ∀ x ∈ p1, x.block < W.heap.size := by obtain ⟨m, hm⟩ := k1; exact DataW.trod_lt m _ _ _ hm
  obtain ⟨A1, c1, l1, rfl, hc1, hr1, w1⟩ := open_row rd49 Try.underlying49 (hval 1 49 v1 rfl rfl) h1
  have m1 : l1.length ≤ 9223372036854775807 := hr1.2.1
  clear hA0 hval0 hsz0 hsz
  obtain ⟨k, h⟩ := Pure.FnExactOscRun a0_0 a0_1 a0_2 a0_3 l1 w0 w1 m1
  refine (XFnExactOscRun.laws_FnExactOscRun.calls k a0_0 a0_1 a0_2 a0_3 A1 c1 l1 true W hr1 hc1 (Aside0.mk rfl) h).mono fun e W' ⟨he, bel0⟩ => ?_
  have bel : Below W.heap.size W W' := bel0
  subst he
  exact ⟨_, rfl, _, _, _, [], _, [], hW', trodAll_mk1 (shut_bool Try.underlying4 _), (trodAll_cons_mk (Below.trod laidOut (by kernel_rfl) (of_decide_eq_true (by kernel_rfl)) k0 bel lt0) (trodAll_cons_mk (Below.trod laidOut (by kernel_rfl) (of_decide_eq_true (by kernel_rfl)) k1 bel lt1) trodAll_mk0)), rfl, bel.frame _, fun h => by cases h⟩
theorem over : Rows.fnExactOscRunRow.holds Try.pinned (OpenSpec.ofChange Rows.fnExactOscRunSpec) :=
  OpenClaim.holds_of_wide 9 Try.f9 rfl rfl rfl rfl rfl rfl rfl ⟨rfl, rfl, rfl, rfl, rfl⟩ rfl rfl rfl rfl rfl (by kernel_rfl) Try.func9 (by kernel_rfl)
    (of_decide_eq_true (by kernel_rfl)) (by unfold Func.isWrapper; first | (rw [if_pos (by decide +kernel)]; kernel_rfl) | (rw [if_neg (by decide +kernel)]; exact ⟨rfl, rfl⟩))
    (fun os started H enc _ => lifted os started H enc)
end Go.Proofs.Ytlikojcfjamgpaa.fnExactOscRun
namespace Go.Proofs.Ytlikojcfjamgpaa
theorem fnExactOscRun_holds : Rows.FnExactOscRunSaid := fnExactOscRun.over
#print axioms fnExactOscRun_holds
end Go.Proofs.Ytlikojcfjamgpaa
