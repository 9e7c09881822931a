/- The statement FnExactPack: for every input the law returns true, and each argument reads behind the call as it read before. No condition. The row: its arguments are opened by the lemmas of YtpnfbekbkeiahaaOpen, the walk is the printed one, the numbers are YtpnfbekbkeiahaaPureFnExactPack's. -/
import Derived.Test.YtpnfbekbkeiahaaRows
import Derived.Test.YtpnfbekbkeiahaaXFnExactPackx9
import Derived.Test.YtpnfbekbkeiahaaOpen
import Derived.Test.YtpnfbekbkeiahaaPureFnExactPack
import Derived.WalkKit
import Derived.ProofKit
import Derived.OpenShut
import Derived.ShutString
import Derived.ChangeOld
import Derived.Below
import Derived.SizedLaws
namespace Go.Proofs.Ytpnfbekbkeiahaa.fnExactPack
open Go.ChangeShapes Go.WideShapes Go.ChangeAt Go.RowKit Go.Proofs.YtpnfbekbkeiahaaW.PrintWords Go.Proofs.Ytpnfbekbkeiahaa.Open
open Go.ChangeMaps (open_string shut_string)
set_option linter.unusedVariables false
set_option linter.unusedSimpArgs false
theorem own : ownKnob Try.prog.godebug = none := by kernel_rfl
theorem laidOut : laidOutB Try.prog = true := by kernel_rfl
theorem rd3 : Rd Try.prog 3 (Kd.int .i64) (fun x => (Lit.int .i64 x).wf = true) := rd_int Try.underlying3
theorem rd23 : Rd Try.prog 23 (Kd.iso (Kd.pair (Kd.int .i64) (Kd.int .i64)) id) (fun x => (fun x => (Lit.int .i64 x).wf = true) x.1 ∧ (fun x => (Lit.int .i64 x).wf = true) x.2) := rd_struct Try.underlying23 (by kernel_rfl) (fl_cons rd3 rfl (by kernel_rfl) (fl_one rd3 rfl (by kernel_rfl))) id id (fun _ => rfl)
theorem rd9 : Rd Try.prog 9 Kd.string (fun s => s.size ≤ maxLen) := rd_string Try.underlying9
theorem rd25 : Rd Try.prog 25 (Kd.iso (Kd.pair (Kd.int .i64) (Kd.pair (Kd.int .i64) (Kd.pair (Kd.int .i64) (Kd.pair (Kd.int .i64) (Kd.pair (Kd.iso (Kd.pair (Kd.int .i64) (Kd.int .i64)) id) (Kd.pair (Kd.int .i64) Kd.string)))))) id) (fun x => (fun x => (Lit.int .i64 x).wf = true) x.1 ∧ (fun x => (Lit.int .i64 x).wf = true) x.2.1 ∧ (fun x => (Lit.int .i64 x).wf = true) x.2.2.1 ∧ (fun x => (Lit.int .i64 x).wf = true) x.2.2.2.1 ∧ (fun x => (fun x => (Lit.int .i64 x).wf = true) x.1 ∧ (fun x => (Lit.int .i64 x).wf = true) x.2) x.2.2.2.2.1 ∧ (fun x => (Lit.int .i64 x).wf = true) x.2.2.2.2.2.1 ∧ (fun s => s.size ≤ maxLen) x.2.2.2.2.2.2) := rd_struct Try.underlying25 (by kernel_rfl) (fl_cons rd3 rfl (by kernel_rfl) (fl_cons rd3 rfl (by kernel_rfl) (fl_cons rd3 rfl (by kernel_rfl) (fl_cons rd3 rfl (by kernel_rfl) (fl_cons rd23 rfl (by kernel_rfl) (fl_cons rd3 rfl (by kernel_rfl) (fl_one rd9 rfl (by kernel_rfl)))))))) id id (fun _ => rfl)
set_option maxRecDepth 100000 in
theorem lifted (os : Os) (started : os.Started) (H : Type) (enc : TypeId × Value → H) :
    ReturnsInHanded {} Try.checked os 3 .any (Rows.fnExactPackSpec.pre6 enc Try.prog Try.f3 Rows.fnExactPackRow.domain false) (Rows.fnExactPackSpec.post enc Try.prog Try.f3 false true false false) := by
  refine returnsInHanded_of_change_sized (C := Try.checked) own started (by kernel_rfl) Try.func3
    (ChangeSpec.witness6 (enc := enc) (C := Try.checked) false ⟨#[], #[.agg #[.int .i64 0, .int .i64 0, .int .i64 0, .int .i64 0, .int .i64 0, .int .i64 0, .int .i64 0, .string ByteArray.empty]], []⟩ 8 (by kernel_rfl) (by kernel_rfl) (by kernel_rfl) (by kernel_rfl)) ?_
  intro W base args ds gs before hval0 hW hcnd hsz0 _
  have hsz : (DataW.weightsEach Try.prog (Try.f3.params.toList ++ Rows.fnExactPackSpec.plain.varTypes Try.prog) (ds ++ gs)).all (· ≤ reachBytes) = true := hsz0
  have hval : ∀ (j : Nat) t v, Try.f3.params[j]? = some t → args[j]? = some v → Value.okWide Try.prog W .any base t v := hval0
  have hW' := hW
  obtain ⟨p, q, hA0, hV, rfl, hfz, hnd⟩ := hW
  have hA : DataW.TrodAll enc Try.prog W 0 (fun _ => true) true Try.f3.params.toList args.toList ds p := hA0
  rw [Try.params3] at hA hval hsz
  obtain ⟨v0, vs0, d0, ds0, p0, q0, hargs, rfl, rfl, h0, r0⟩ := trodAll_cons hA
  obtain ⟨rfl, rfl, rfl⟩ := trodAll_nil r0
  obtain rfl : args = #[v0] := by cases args; simp_all
  obtain ⟨rfl, rfl⟩ := trodVars_none hV
  have k0 := h0
  have lt0 : ∀ x ∈ p0, x.block < W.heap.size := by obtain ⟨m, hm⟩ := k0; exact DataW.trod_lt m _ _ _ hm
  obtain ⟨u0, cs0, rfl, hk0, w0⟩ := open_agg rd25 Try.underlying25 (hval 0 25 v0 rfl rfl) h0
  obtain ⟨a0_0, a0_1, a0_2, a0_3, ⟨a0_4, a0_5⟩, a0_6, a0_7⟩ := u0
  obtain ⟨_, _, e0, rfl, ⟨_, _, rfl, rfl, ⟨_, _, rfl, rfl, ⟨_, _, rfl, rfl, ⟨_, _, rfl, ⟨_, _, rfl, rfl, rfl⟩, ⟨_, _, rfl, rfl, rfl⟩⟩⟩⟩⟩⟩ := hk0
  obtain rfl : cs0 = #[.int .i64 a0_0, .int .i64 a0_1, .int .i64 a0_2, .int .i64 a0_3, .int .i64 a0_4, .int .i64 a0_5, .int .i64 a0_6, .string a0_7] := by cases cs0; simpa using e0
  clear e0
  clear hA0 hval0 hsz0 hsz
  obtain ⟨k, h⟩ := Pure.FnExactPack a0_0 a0_1 a0_2 a0_3 a0_4 a0_5 a0_6 a0_7 w0
  refine (XFnExactPack.laws_FnExactPack.calls k a0_0 a0_1 a0_2 a0_3 a0_4 a0_5 a0_6 a0_7 true W (Aside0.mk rfl) h).mono fun e W' ⟨he, bel0⟩ => ?_
  have bel : Below W.heap.size W W' := bel0
  subst he
  exact ⟨_, rfl, _, _, _, [], _, [], hW', trodAll_mk1 (shut_bool Try.underlying4 _), (trodAll_cons_mk (Below.trod laidOut (by kernel_rfl) (of_decide_eq_true (by kernel_rfl)) k0 bel lt0) trodAll_mk0), rfl, bel.frame _, fun h => by cases h⟩
theorem over : Rows.fnExactPackRow.holds Try.pinned (OpenSpec.ofChange Rows.fnExactPackSpec) :=
  OpenClaim.holds_of_wide 3 Try.f3 rfl rfl rfl rfl rfl rfl rfl ⟨rfl, rfl, rfl, rfl, rfl⟩ rfl rfl rfl rfl rfl (by kernel_rfl) Try.func3 (by kernel_rfl)
    (of_decide_eq_true (by kernel_rfl)) (by unfold Func.isWrapper; first | (rw [if_pos (by decide +kernel)]; kernel_rfl) | (rw [if_neg (by decide +kernel)]; exact ⟨rfl, rfl⟩))
    (fun os started H enc _ => lifted os started H enc)
end Go.Proofs.Ytpnfbekbkeiahaa.fnExactPack
namespace Go.Proofs.Ytpnfbekbkeiahaa
theorem fnExactPack_holds : Rows.FnExactPackSaid := fnExactPack.over
#print axioms fnExactPack_holds
end Go.Proofs.Ytpnfbekbkeiahaa
