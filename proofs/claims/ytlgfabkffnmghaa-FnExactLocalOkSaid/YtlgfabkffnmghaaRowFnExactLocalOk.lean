/- The statement FnExactLocalOk: for every input the law returns true, and each argument reads behind the call as it read before. No condition. The row: its arguments are opened by the lemmas of YtlgfabkffnmghaaOpen, the walk is the printed one, the numbers are YtlgfabkffnmghaaPureFnExactLocalOk's. -/
import Derived.Test.YtlgfabkffnmghaaRows
import Derived.Test.YtlgfabkffnmghaaPFnExactLocalOkx2
import Derived.Test.YtlgfabkffnmghaaOpen
import Derived.Test.YtlgfabkffnmghaaPureFnExactLocalOk
import Derived.WalkKit
import Derived.ProofKit
import Derived.OpenShut
import Derived.ShutString
import Derived.ChangeOld
import Derived.Below
import Derived.SizedLaws
namespace Go.Proofs.Ytlgfabkffnmghaa.fnExactLocalOk
open Go.ChangeShapes Go.WideShapes Go.ChangeAt Go.RowKit Go.Proofs.YtlgfabkffnmghaaW.PrintWords Go.Proofs.Ytlgfabkffnmghaa.Open
open Go.ChangeMaps (open_string shut_string)
set_option linter.unusedVariables false
set_option linter.unusedSimpArgs false
theorem own : ownKnob Try.prog.godebug = none := by kernel_rfl
theorem laidOut : laidOutB Try.prog = true := by kernel_rfl
theorem rd4 : Rd Try.prog 4 Kd.bool (fun _ => True) := rd_bool Try.underlying4
theorem rd3 : Rd Try.prog 3 (Kd.int .i64) (fun x => (Lit.int .i64 x).wf = true) := rd_int Try.underlying3
theorem rd24 : Rd Try.prog 24 (Kd.iso (Kd.pair (Kd.int .i64) (Kd.int .i64)) id) (fun x => (fun x => (Lit.int .i64 x).wf = true) x.1 ∧ (fun x => (Lit.int .i64 x).wf = true) x.2) := rd_struct Try.underlying24 (by kernel_rfl) (fl_cons rd3 rfl (by kernel_rfl) (fl_one rd3 rfl (by kernel_rfl))) id id (fun _ => rfl)
theorem rd60 : Rd Try.prog 60 (Kd.iso (Kd.pair Kd.bool (Kd.pair (Kd.iso (Kd.pair (Kd.int .i64) (Kd.int .i64)) id) (Kd.int .i64))) id) (fun x => (fun _ => True) x.1 ∧ (fun x => (fun x => (Lit.int .i64 x).wf = true) x.1 ∧ (fun x => (Lit.int .i64 x).wf = true) x.2) x.2.1 ∧ (fun x => (Lit.int .i64 x).wf = true) x.2.2) := rd_struct Try.underlying60 (by kernel_rfl) (fl_cons rd4 rfl (by kernel_rfl) (fl_cons rd24 rfl (by kernel_rfl) (fl_one rd3 rfl (by kernel_rfl)))) id id (fun _ => rfl)
set_option maxRecDepth 100000 in
theorem lifted (os : Os) (started : os.Started) (H : Type) (enc : TypeId × Value → H) :
    ReturnsInHanded {} Try.checked os 14 .any (Rows.fnExactLocalOkSpec.pre6 enc Try.prog Try.f14 Rows.fnExactLocalOkRow.domain false) (Rows.fnExactLocalOkSpec.post enc Try.prog Try.f14 false true false false) := by
  refine returnsInHanded_of_change_sized (C := Try.checked) own started (by kernel_rfl) Try.func14
    (ChangeSpec.witness6 (enc := enc) (C := Try.checked) false ⟨#[], #[.agg #[.bool false, .int .i64 0, .int .i64 0, .int .i64 0]], []⟩ 8 (by kernel_rfl) (by kernel_rfl) (by kernel_rfl) (by kernel_rfl)) ?_
  intro W base args ds gs before hval0 hW hcnd hsz0 _
  have hsz : (DataW.weightsEach Try.prog (Try.f14.params.toList ++ Rows.fnExactLocalOkSpec.plain.varTypes Try.prog) (ds ++ gs)).all (· ≤ reachBytes) = true := hsz0
  have hval : ∀ (j : Nat) t v, Try.f14.params[j]? = some t → args[j]? = some v → Value.okWide Try.prog W .any base t v := hval0
  have hW' := hW
  obtain ⟨p, q, hA0, hV, rfl, hfz, hnd⟩ := hW
  have hA : DataW.TrodAll enc Try.prog W 0 (fun _ => true) true Try.f14.params.toList args.toList ds p := hA0
  rw [Try.params14] at hA hval hsz
  obtain ⟨v0, vs0, d0, ds0, p0, q0, hargs, rfl, rfl, h0, r0⟩ := trodAll_cons hA
  obtain ⟨rfl, rfl, rfl⟩ := trodAll_nil r0
  obtain rfl : args = #[v0] := by cases args; simp_all
  obtain ⟨rfl, rfl⟩ := trodVars_none hV
  have k0 := h0
  have lt0 : ∀ x ∈ p0, x.block < W.heap.size := by obtain ⟨m, hm⟩ := k0; exact DataW.trod_lt m _ _ _ hm
  obtain ⟨u0, cs0, rfl, hk0, w0⟩ := open_agg rd60 Try.underlying60 (hval 0 60 v0 rfl rfl) h0
  obtain ⟨a0_0, ⟨a0_1, a0_2⟩, a0_3⟩ := u0
  obtain ⟨_, _, e0, rfl, ⟨_, _, rfl, ⟨_, _, rfl, rfl, rfl⟩, rfl⟩⟩ := hk0
  obtain rfl : cs0 = #[.bool a0_0, .int .i64 a0_1, .int .i64 a0_2, .int .i64 a0_3] := by cases cs0; simpa using e0
  clear e0
  clear hA0 hval0 hsz0 hsz
  have h := Pure.FnExactLocalOk a0_0 a0_1 a0_2 a0_3 w0
  refine (PFnExactLocalOk.laws_FnExactLocalOk.calls a0_0 a0_1 a0_2 a0_3 true W h).mono fun e W' ⟨he, bel0⟩ => ?_
  have bel : Below W.heap.size W W' := bel0
  subst he
  exact ⟨_, rfl, _, _, _, [], _, [], hW', trodAll_mk1 (shut_bool Try.underlying4 _), (trodAll_cons_mk (Below.trod laidOut (by kernel_rfl) (of_decide_eq_true (by kernel_rfl)) k0 bel lt0) trodAll_mk0), rfl, bel.frame _, fun h => by cases h⟩
theorem over : Rows.fnExactLocalOkRow.holds Try.pinned (OpenSpec.ofChange Rows.fnExactLocalOkSpec) :=
  OpenClaim.holds_of_wide 14 Try.f14 rfl rfl rfl rfl rfl rfl rfl ⟨rfl, rfl, rfl, rfl, rfl⟩ rfl rfl rfl rfl rfl (by kernel_rfl) Try.func14 (by kernel_rfl)
    (of_decide_eq_true (by kernel_rfl)) (by unfold Func.isWrapper; first | (rw [if_pos (by decide +kernel)]; kernel_rfl) | (rw [if_neg (by decide +kernel)]; exact ⟨rfl, rfl⟩))
    (fun os started H enc _ => lifted os started H enc)
end Go.Proofs.Ytlgfabkffnmghaa.fnExactLocalOk
namespace Go.Proofs.Ytlgfabkffnmghaa
theorem fnExactLocalOk_holds : Rows.FnExactLocalOkSaid := fnExactLocalOk.over
#print axioms fnExactLocalOk_holds
end Go.Proofs.Ytlgfabkffnmghaa
