/- The statement FnExactNetFor: for every input the law returns true, and each argument reads behind the call as it read before. No condition. The row: its arguments are opened by the lemmas of YtlbdhjkihndehaaOpen, the walk is the printed one, the numbers are YtlbdhjkihndehaaPureFnExactNetFor's. -/
import Derived.Test.YtlbdhjkihndehaaRows
import Derived.Test.YtlbdhjkihndehaaXFnExactNetForx6
import Derived.Test.YtlbdhjkihndehaaOpen
import Derived.Test.YtlbdhjkihndehaaPureFnExactNetFor
import Derived.WalkKit
import Derived.ProofKit
import Derived.OpenShut
import Derived.ShutString
import Derived.ChangeOld
import Derived.Below
import Derived.SizedLaws
namespace Go.Proofs.Ytlbdhjkihndehaa.fnExactNetFor
open Go.ChangeShapes Go.WideShapes Go.ChangeAt Go.RowKit Go.Proofs.YtlbdhjkihndehaaW.PrintWords Go.Proofs.Ytlbdhjkihndehaa.Open
open Go.ChangeMaps (open_string shut_string)
set_option linter.unusedVariables false
set_option linter.unusedSimpArgs false
theorem own : ownKnob Try.prog.godebug = none := by kernel_rfl
theorem laidOut : laidOutB Try.prog = true := by kernel_rfl
theorem rd3 : Rd Try.prog 3 (Kd.int .i64) (fun x => (Lit.int .i64 x).wf = true) := rd_int Try.underlying3
theorem rd9 : Rd Try.prog 9 Kd.string (fun s => s.size ≤ maxLen) := rd_string Try.underlying9
theorem rd62 : Rd Try.prog 62 XFnExactNetFor.k62 (fun x : XFnExactNetFor.S62 => (fun x => (Lit.int .i64 x).wf = true) x.f0 ∧ (fun x => (Lit.int .i64 x).wf = true) x.f1 ∧ (fun x => (Lit.int .i64 x).wf = true) x.f2 ∧ (fun s => s.size ≤ maxLen) x.f3 ∧ (fun x => (Lit.int .i64 x).wf = true) x.f4) := rd_struct Try.underlying62 (by kernel_rfl) (fl_cons rd3 rfl (by kernel_rfl) (fl_cons rd3 rfl (by kernel_rfl) (fl_cons rd3 rfl (by kernel_rfl) (fl_cons rd9 rfl (by kernel_rfl) (fl_one rd3 rfl (by kernel_rfl)))))) (fun x : XFnExactNetFor.S62 => (x.f0, x.f1, x.f2, x.f3, x.f4)) (fun p => ⟨p.1, p.2.1, p.2.2.1, p.2.2.2.1, p.2.2.2.2⟩) (fun _ => rfl)
theorem rd22 : Rd Try.prog 22 (Kd.slice 62 XFnExactNetFor.k62) (fun l => ∀ x ∈ l, (fun x : XFnExactNetFor.S62 => (fun x => (Lit.int .i64 x).wf = true) x.f0 ∧ (fun x => (Lit.int .i64 x).wf = true) x.f1 ∧ (fun x => (Lit.int .i64 x).wf = true) x.f2 ∧ (fun s => s.size ≤ maxLen) x.f3 ∧ (fun x => (Lit.int .i64 x).wf = true) x.f4) x) := rd_slice Try.underlying22 (by kernel_rfl) rd62
theorem rd24 : Rd Try.prog 24 (Kd.iso (Kd.pair (Kd.int .i64) (Kd.slice 62 XFnExactNetFor.k62)) id) (fun x => (fun x => (Lit.int .i64 x).wf = true) x.1 ∧ (fun l => ∀ x ∈ l, (fun x : XFnExactNetFor.S62 => (fun x => (Lit.int .i64 x).wf = true) x.f0 ∧ (fun x => (Lit.int .i64 x).wf = true) x.f1 ∧ (fun x => (Lit.int .i64 x).wf = true) x.f2 ∧ (fun s => s.size ≤ maxLen) x.f3 ∧ (fun x => (Lit.int .i64 x).wf = true) x.f4) x) x.2) := rd_struct Try.underlying24 (by kernel_rfl) (fl_cons rd3 rfl (by kernel_rfl) (fl_one rd22 rfl (by kernel_rfl))) id id (fun _ => rfl)
set_option maxRecDepth 100000 in
theorem lifted (os : Os) (started : os.Started) (H : Type) (enc : TypeId × Value → H) :
    ReturnsInHanded {} Try.checked os 6 .any (Rows.fnExactNetForSpec.pre6 enc Try.prog Try.f6 Rows.fnExactNetForRow.domain false) (Rows.fnExactNetForSpec.post enc Try.prog Try.f6 false true false false) := by
  refine returnsInHanded_of_change_sized (C := Try.checked) own started (by kernel_rfl) Try.func6
    (ChangeSpec.witness6 (enc := enc) (C := Try.checked) false ⟨#[], #[.agg #[.int .i64 0, .slice none 0 0], .int .i64 0], []⟩ 8 (by kernel_rfl) (by kernel_rfl) (by kernel_rfl) (by kernel_rfl)) ?_
  intro W base args ds gs before hval0 hW hcnd hsz0 _
  have hsz : (DataW.weightsEach Try.prog (Try.f6.params.toList ++ Rows.fnExactNetForSpec.plain.varTypes Try.prog) (ds ++ gs)).all (· ≤ reachBytes) = true := hsz0
  have hval : ∀ (j : Nat) t v, Try.f6.params[j]? = some t → args[j]? = some v → Value.okWide Try.prog W .any base t v := hval0
  have hW' := hW
  obtain ⟨p, q, hA0, hV, rfl, hfz, hnd⟩ := hW
  have hA : DataW.TrodAll enc Try.prog W 0 (fun _ => true) true Try.f6.params.toList args.toList ds p := hA0
  rw [Try.params6] at hA hval hsz
  obtain ⟨v0, vs0, d0, ds0, p0, q0, hargs, rfl, rfl, h0, r0⟩ := trodAll_cons hA
  obtain ⟨v1, vs1, d1, ds1, p1, q1, rfl, rfl, rfl, h1, r1⟩ := trodAll_cons r0
  obtain ⟨rfl, rfl, rfl⟩ := trodAll_nil r1
  obtain rfl : args = #[v0, v1] := by cases args; simp_all
  obtain ⟨rfl, rfl⟩ := trodVars_none hV
  have k0 := h0
  have lt0 : ∀ x ∈ p0, x.block < W.heap.size := by obtain ⟨m, hm⟩ := k0; exact DataW.trod_lt m _ _ _ hm
  obtain ⟨u0, cs0, rfl, hk0, w0⟩ := open_agg rd24 Try.underlying24 (hval 0 24 v0 rfl rfl) h0
  obtain ⟨a0_0, l0_1⟩ := u0
  obtain ⟨_, _, e0, rfl, ⟨A0_1, c0_1, rfl, hc0_1, hr0_1⟩⟩ := hk0
  obtain rfl : cs0 = #[.int .i64 a0_0, .slice A0_1 l0_1.length c0_1] := by cases cs0; simpa using e0
  clear e0
  have m0_1 : l0_1.length ≤ 9223372036854775807 := hr0_1.2.1
  obtain ⟨a1, rfl, rfl, rfl, w1⟩ := open_int Try.underlying3 (hval 1 3 v1 rfl rfl) h1
  clear hA0 hval0 hsz0 hsz
  obtain ⟨k, h⟩ := Pure.FnExactNetFor a0_0 l0_1 a1 w0 m0_1 w1
  refine (XFnExactNetFor.laws_FnExactNetFor.calls k a0_0 A0_1 c0_1 l0_1 a1 true W hr0_1 hc0_1 (Aside0.mk rfl) h).mono fun e W' ⟨he, bel0⟩ => ?_
  have bel : Below W.heap.size W W' := bel0
  subst he
  exact ⟨_, rfl, _, _, _, [], _, [], hW', trodAll_mk1 (shut_bool Try.underlying4 _), (trodAll_cons_mk (Below.trod laidOut (by kernel_rfl) (of_decide_eq_true (by kernel_rfl)) k0 bel lt0) (trodAll_cons_mk (shut_int Try.underlying3 w1) trodAll_mk0)), rfl, bel.frame _, fun h => by cases h⟩
theorem over : Rows.fnExactNetForRow.holds Try.pinned (OpenSpec.ofChange Rows.fnExactNetForSpec) :=
  OpenClaim.holds_of_wide 6 Try.f6 rfl rfl rfl rfl rfl rfl rfl ⟨rfl, rfl, rfl, rfl, rfl⟩ rfl rfl rfl rfl rfl (by kernel_rfl) Try.func6 (by kernel_rfl)
    (of_decide_eq_true (by kernel_rfl)) (by unfold Func.isWrapper; first | (rw [if_pos (by decide +kernel)]; kernel_rfl) | (rw [if_neg (by decide +kernel)]; exact ⟨rfl, rfl⟩))
    (fun os started H enc _ => lifted os started H enc)
end Go.Proofs.Ytlbdhjkihndehaa.fnExactNetFor
namespace Go.Proofs.Ytlbdhjkihndehaa
theorem fnExactNetFor_holds : Rows.FnExactNetForSaid := fnExactNetFor.over
#print axioms fnExactNetFor_holds
end Go.Proofs.Ytlbdhjkihndehaa
