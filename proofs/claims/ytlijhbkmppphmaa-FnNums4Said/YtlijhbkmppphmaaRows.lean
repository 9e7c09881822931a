/-
  No cell of these rows narrows 'for every input' (looked for: loops, veiled, ifaces, maps, wideKeys, modest, calm, conditions, laid).
  DERIVED. THE GIVEN ROWS OF THIS SEAT. 14 by the template 'for every input the law returns true; each argument reads behind the call as it read before'; 0 by the template 'total and deterministic' (their statements: YtlijhbkmppphmaaTotals.lean).
  GIVEN WITH THE SEED: the statements are not yours to turn. If you find one false, say at which input.
  Laid BY PROGRAM, IN A SANDBOX (cutbox-rows.mjs): the forced cells as the released guide's own fill.sh prints them over the translation 2936aa7f979b1a93… (all of the seat's roots in one cut). By AI agents, Wed Nov 11 2026. No macro, syntax, notation, axiom, sorry.
-/
import Derived.Test.YtlijhbkmppphmaaChecked
import GoSem.Claim
import GoSem.ClaimJoined
import GoSem.ClaimMapViews
import Derived.JoinedTies
import Derived.KernelRfl
namespace Go.Proofs.Ytlijhbkmppphmaa
/- THE CELL 'sum', in the pinned program and in every row, IS THE sha256 OF THE DUMP (.gsa) THAT YtlijhbkmppphmaaProg.lean LOADS. Nothing in Lean hashes anything: it is a label: what it is worth is what the hold of that sum in a sandbox is worth. -/
noncomputable def Try.pinned : Pinned := { name := "ytlijhbkmppphmaa", sum := "2936aa7f979b1a9310236b68435201209a41258bf6237963884b2db831894f26", checked := Try.checked }
namespace Rows
def none {H : Type} : Left H := { results := [], args := [] }

/-- 'laws.FnExactApart': WHATEVER THE INPUT: true; the input reads as it did. -/
def fnExactApartSpec : ChangeSpec := { name := "fnExactApart", fn := fun _ => fun
  | [d1, d2] => { results := [.lit (.bool true)], args := [d1, d2] }
  | _ => none }
def fnExactApartRow : OpenClaim := { program := "ytlijhbkmppphmaa", sum := "2936aa7f979b1a9310236b68435201209a41258bf6237963884b2db831894f26", func := "loop.example/g00072/laws.FnExactApart", spec := "fnExactApart", apart := false }
def FnExactApartSaid : Prop := fnExactApartRow.holds Try.pinned (OpenSpec.ofChange fnExactApartSpec)

/-- ITS FALSE NEIGHBOUR: 'it returns false'. Refute it at one input. -/
def fnExactApartWrong : ChangeSpec := { name := "fnExactApart", fn := fun _ => fun
  | [d1, d2] => { results := [.lit (.bool false)], args := [d1, d2] }
  | _ => none }
def FnExactApartWrongFalsely : Prop := fnExactApartRow.holds Try.pinned (OpenSpec.ofChange fnExactApartWrong)

/-- 'laws.FnExactNearest': WHATEVER THE INPUT: true; the input reads as it did. -/
def fnExactNearestSpec : ChangeSpec := { name := "fnExactNearest", fn := fun _ => fun
  | [d1, d2] => { results := [.lit (.bool true)], args := [d1, d2] }
  | _ => none }
def fnExactNearestRow : OpenClaim := { program := "ytlijhbkmppphmaa", sum := "2936aa7f979b1a9310236b68435201209a41258bf6237963884b2db831894f26", func := "loop.example/g00072/laws.FnExactNearest", spec := "fnExactNearest", apart := false }
def FnExactNearestSaid : Prop := fnExactNearestRow.holds Try.pinned (OpenSpec.ofChange fnExactNearestSpec)

/-- ITS FALSE NEIGHBOUR: 'it returns false'. Refute it at one input. -/
def fnExactNearestWrong : ChangeSpec := { name := "fnExactNearest", fn := fun _ => fun
  | [d1, d2] => { results := [.lit (.bool false)], args := [d1, d2] }
  | _ => none }
def FnExactNearestWrongFalsely : Prop := fnExactNearestRow.holds Try.pinned (OpenSpec.ofChange fnExactNearestWrong)

/-- 'laws.FnExactMiddle': WHATEVER THE INPUT: true; the input reads as it did. -/
def fnExactMiddleSpec : ChangeSpec := { name := "fnExactMiddle", fn := fun _ => fun
  | [d] => { results := [.lit (.bool true)], args := [d] }
  | _ => none }
def fnExactMiddleRow : OpenClaim := { program := "ytlijhbkmppphmaa", sum := "2936aa7f979b1a9310236b68435201209a41258bf6237963884b2db831894f26", func := "loop.example/g00072/laws.FnExactMiddle", spec := "fnExactMiddle", apart := false }
def FnExactMiddleSaid : Prop := fnExactMiddleRow.holds Try.pinned (OpenSpec.ofChange fnExactMiddleSpec)

/-- ITS FALSE NEIGHBOUR: 'it returns false'. Refute it at one input. -/
def fnExactMiddleWrong : ChangeSpec := { name := "fnExactMiddle", fn := fun _ => fun
  | [d] => { results := [.lit (.bool false)], args := [d] }
  | _ => none }
def FnExactMiddleWrongFalsely : Prop := fnExactMiddleRow.holds Try.pinned (OpenSpec.ofChange fnExactMiddleWrong)

/-- 'laws.FnExactWorse': WHATEVER THE INPUT: true; the input reads as it did. -/
def fnExactWorseSpec : ChangeSpec := { name := "fnExactWorse", fn := fun _ => fun
  | [d1, d2] => { results := [.lit (.bool true)], args := [d1, d2] }
  | _ => none }
def fnExactWorseRow : OpenClaim := { program := "ytlijhbkmppphmaa", sum := "2936aa7f979b1a9310236b68435201209a41258bf6237963884b2db831894f26", func := "loop.example/g00072/laws.FnExactWorse", spec := "fnExactWorse", apart := false }
def FnExactWorseSaid : Prop := fnExactWorseRow.holds Try.pinned (OpenSpec.ofChange fnExactWorseSpec)

/-- ITS FALSE NEIGHBOUR: 'it returns false'. Refute it at one input. -/
def fnExactWorseWrong : ChangeSpec := { name := "fnExactWorse", fn := fun _ => fun
  | [d1, d2] => { results := [.lit (.bool false)], args := [d1, d2] }
  | _ => none }
def FnExactWorseWrongFalsely : Prop := fnExactWorseRow.holds Try.pinned (OpenSpec.ofChange fnExactWorseWrong)

/-- 'laws.FnExactLessIval': WHATEVER THE INPUT: true; the input reads as it did. -/
def fnExactLessIvalSpec : ChangeSpec := { name := "fnExactLessIval", fn := fun _ => fun
  | [d1, d2] => { results := [.lit (.bool true)], args := [d1, d2] }
  | _ => none }
def fnExactLessIvalRow : OpenClaim := { program := "ytlijhbkmppphmaa", sum := "2936aa7f979b1a9310236b68435201209a41258bf6237963884b2db831894f26", func := "loop.example/g00072/laws.FnExactLessIval", spec := "fnExactLessIval", apart := false }
def FnExactLessIvalSaid : Prop := fnExactLessIvalRow.holds Try.pinned (OpenSpec.ofChange fnExactLessIvalSpec)

/-- ITS FALSE NEIGHBOUR: 'it returns false'. Refute it at one input. -/
def fnExactLessIvalWrong : ChangeSpec := { name := "fnExactLessIval", fn := fun _ => fun
  | [d1, d2] => { results := [.lit (.bool false)], args := [d1, d2] }
  | _ => none }
def FnExactLessIvalWrongFalsely : Prop := fnExactLessIvalRow.holds Try.pinned (OpenSpec.ofChange fnExactLessIvalWrong)

/-- 'laws.FnExactPlusIval': WHATEVER THE INPUT: true; the input reads as it did. -/
def fnExactPlusIvalSpec : ChangeSpec := { name := "fnExactPlusIval", fn := fun _ => fun
  | [d1, d2] => { results := [.lit (.bool true)], args := [d1, d2] }
  | _ => none }
def fnExactPlusIvalRow : OpenClaim := { program := "ytlijhbkmppphmaa", sum := "2936aa7f979b1a9310236b68435201209a41258bf6237963884b2db831894f26", func := "loop.example/g00072/laws.FnExactPlusIval", spec := "fnExactPlusIval", apart := false }
def FnExactPlusIvalSaid : Prop := fnExactPlusIvalRow.holds Try.pinned (OpenSpec.ofChange fnExactPlusIvalSpec)

/-- ITS FALSE NEIGHBOUR: 'it returns false'. Refute it at one input. -/
def fnExactPlusIvalWrong : ChangeSpec := { name := "fnExactPlusIval", fn := fun _ => fun
  | [d1, d2] => { results := [.lit (.bool false)], args := [d1, d2] }
  | _ => none }
def FnExactPlusIvalWrongFalsely : Prop := fnExactPlusIvalRow.holds Try.pinned (OpenSpec.ofChange fnExactPlusIvalWrong)

/-- 'laws.FnExactShift': WHATEVER THE INPUT: true; the input reads as it did. -/
def fnExactShiftSpec : ChangeSpec := { name := "fnExactShift", fn := fun _ => fun
  | [d1, d2] => { results := [.lit (.bool true)], args := [d1, d2] }
  | _ => none }
def fnExactShiftRow : OpenClaim := { program := "ytlijhbkmppphmaa", sum := "2936aa7f979b1a9310236b68435201209a41258bf6237963884b2db831894f26", func := "loop.example/g00072/laws.FnExactShift", spec := "fnExactShift", apart := false }
def FnExactShiftSaid : Prop := fnExactShiftRow.holds Try.pinned (OpenSpec.ofChange fnExactShiftSpec)

/-- ITS FALSE NEIGHBOUR: 'it returns false'. Refute it at one input. -/
def fnExactShiftWrong : ChangeSpec := { name := "fnExactShift", fn := fun _ => fun
  | [d1, d2] => { results := [.lit (.bool false)], args := [d1, d2] }
  | _ => none }
def FnExactShiftWrongFalsely : Prop := fnExactShiftRow.holds Try.pinned (OpenSpec.ofChange fnExactShiftWrong)

/-- 'laws.FnExactSpread': WHATEVER THE INPUT: true; the input reads as it did. -/
def fnExactSpreadSpec : ChangeSpec := { name := "fnExactSpread", fn := fun _ => fun
  | [d1, d2, d3] => { results := [.lit (.bool true)], args := [d1, d2, d3] }
  | _ => none }
def fnExactSpreadRow : OpenClaim := { program := "ytlijhbkmppphmaa", sum := "2936aa7f979b1a9310236b68435201209a41258bf6237963884b2db831894f26", func := "loop.example/g00072/laws.FnExactSpread", spec := "fnExactSpread", apart := false }
def FnExactSpreadSaid : Prop := fnExactSpreadRow.holds Try.pinned (OpenSpec.ofChange fnExactSpreadSpec)

/-- ITS FALSE NEIGHBOUR: 'it returns false'. Refute it at one input. -/
def fnExactSpreadWrong : ChangeSpec := { name := "fnExactSpread", fn := fun _ => fun
  | [d1, d2, d3] => { results := [.lit (.bool false)], args := [d1, d2, d3] }
  | _ => none }
def FnExactSpreadWrongFalsely : Prop := fnExactSpreadRow.holds Try.pinned (OpenSpec.ofChange fnExactSpreadWrong)

/-- 'laws.FnExactLearn': WHATEVER THE INPUT: true; the input reads as it did. -/
def fnExactLearnSpec : ChangeSpec := { name := "fnExactLearn", fn := fun _ => fun
  | [d1, d2] => { results := [.lit (.bool true)], args := [d1, d2] }
  | _ => none }
def fnExactLearnRow : OpenClaim := { program := "ytlijhbkmppphmaa", sum := "2936aa7f979b1a9310236b68435201209a41258bf6237963884b2db831894f26", func := "loop.example/g00072/laws.FnExactLearn", spec := "fnExactLearn", apart := false }
def FnExactLearnSaid : Prop := fnExactLearnRow.holds Try.pinned (OpenSpec.ofChange fnExactLearnSpec)

/-- ITS FALSE NEIGHBOUR: 'it returns false'. Refute it at one input. -/
def fnExactLearnWrong : ChangeSpec := { name := "fnExactLearn", fn := fun _ => fun
  | [d1, d2] => { results := [.lit (.bool false)], args := [d1, d2] }
  | _ => none }
def FnExactLearnWrongFalsely : Prop := fnExactLearnRow.holds Try.pinned (OpenSpec.ofChange fnExactLearnWrong)

/-- 'laws.FnExactCheck8': WHATEVER THE INPUT: true; the input reads as it did. -/
def fnExactCheck8Spec : ChangeSpec := { name := "fnExactCheck8", fn := fun _ => fun
  | [d] => { results := [.lit (.bool true)], args := [d] }
  | _ => none }
def fnExactCheck8Row : OpenClaim := { program := "ytlijhbkmppphmaa", sum := "2936aa7f979b1a9310236b68435201209a41258bf6237963884b2db831894f26", func := "loop.example/g00072/laws.FnExactCheck8", spec := "fnExactCheck8", apart := false }
def FnExactCheck8Said : Prop := fnExactCheck8Row.holds Try.pinned (OpenSpec.ofChange fnExactCheck8Spec)

/-- ITS FALSE NEIGHBOUR: 'it returns false'. Refute it at one input. -/
def fnExactCheck8Wrong : ChangeSpec := { name := "fnExactCheck8", fn := fun _ => fun
  | [d] => { results := [.lit (.bool false)], args := [d] }
  | _ => none }
def FnExactCheck8WrongFalsely : Prop := fnExactCheck8Row.holds Try.pinned (OpenSpec.ofChange fnExactCheck8Wrong)

/-- 'laws.FnExactPutNum': WHATEVER THE INPUT: true; the input reads as it did. -/
def fnExactPutNumSpec : ChangeSpec := { name := "fnExactPutNum", fn := fun _ => fun
  | [d] => { results := [.lit (.bool true)], args := [d] }
  | _ => none }
def fnExactPutNumRow : OpenClaim := { program := "ytlijhbkmppphmaa", sum := "2936aa7f979b1a9310236b68435201209a41258bf6237963884b2db831894f26", func := "loop.example/g00072/laws.FnExactPutNum", spec := "fnExactPutNum", apart := false }
def FnExactPutNumSaid : Prop := fnExactPutNumRow.holds Try.pinned (OpenSpec.ofChange fnExactPutNumSpec)

/-- ITS FALSE NEIGHBOUR: 'it returns false'. Refute it at one input. -/
def fnExactPutNumWrong : ChangeSpec := { name := "fnExactPutNum", fn := fun _ => fun
  | [d] => { results := [.lit (.bool false)], args := [d] }
  | _ => none }
def FnExactPutNumWrongFalsely : Prop := fnExactPutNumRow.holds Try.pinned (OpenSpec.ofChange fnExactPutNumWrong)

/-- 'laws.FnExactGetNum': WHATEVER THE INPUT: true; the input reads as it did. -/
def fnExactGetNumSpec : ChangeSpec := { name := "fnExactGetNum", fn := fun _ => fun
  | [d1, d2] => { results := [.lit (.bool true)], args := [d1, d2] }
  | _ => none }
def fnExactGetNumRow : OpenClaim := { program := "ytlijhbkmppphmaa", sum := "2936aa7f979b1a9310236b68435201209a41258bf6237963884b2db831894f26", func := "loop.example/g00072/laws.FnExactGetNum", spec := "fnExactGetNum", apart := false }
def FnExactGetNumSaid : Prop := fnExactGetNumRow.holds Try.pinned (OpenSpec.ofChange fnExactGetNumSpec)

/-- ITS FALSE NEIGHBOUR: 'it returns false'. Refute it at one input. -/
def fnExactGetNumWrong : ChangeSpec := { name := "fnExactGetNum", fn := fun _ => fun
  | [d1, d2] => { results := [.lit (.bool false)], args := [d1, d2] }
  | _ => none }
def FnExactGetNumWrongFalsely : Prop := fnExactGetNumRow.holds Try.pinned (OpenSpec.ofChange fnExactGetNumWrong)

/-- 'laws.FnExactMsgOk': WHATEVER THE INPUT: true; the input reads as it did. -/
def fnExactMsgOkSpec : ChangeSpec := { name := "fnExactMsgOk", fn := fun _ => fun
  | [d] => { results := [.lit (.bool true)], args := [d] }
  | _ => none }
def fnExactMsgOkRow : OpenClaim := { program := "ytlijhbkmppphmaa", sum := "2936aa7f979b1a9310236b68435201209a41258bf6237963884b2db831894f26", func := "loop.example/g00072/laws.FnExactMsgOk", spec := "fnExactMsgOk", apart := false }
def FnExactMsgOkSaid : Prop := fnExactMsgOkRow.holds Try.pinned (OpenSpec.ofChange fnExactMsgOkSpec)

/-- ITS FALSE NEIGHBOUR: 'it returns false'. Refute it at one input. -/
def fnExactMsgOkWrong : ChangeSpec := { name := "fnExactMsgOk", fn := fun _ => fun
  | [d] => { results := [.lit (.bool false)], args := [d] }
  | _ => none }
def FnExactMsgOkWrongFalsely : Prop := fnExactMsgOkRow.holds Try.pinned (OpenSpec.ofChange fnExactMsgOkWrong)

/-- 'laws.FnNums4': WHATEVER THE INPUT: true; the input reads as it did. -/
def fnNums4Spec : ChangeSpec := { name := "fnNums4", fn := fun _ => fun
  | [d] => { results := [.lit (.bool true)], args := [d] }
  | _ => none }
def fnNums4Row : OpenClaim := { program := "ytlijhbkmppphmaa", sum := "2936aa7f979b1a9310236b68435201209a41258bf6237963884b2db831894f26", func := "loop.example/g00072/laws.FnNums4", spec := "fnNums4", apart := false }
def FnNums4Said : Prop := fnNums4Row.holds Try.pinned (OpenSpec.ofChange fnNums4Spec)

/-- ITS FALSE NEIGHBOUR: 'it returns false'. Refute it at one input. -/
def fnNums4Wrong : ChangeSpec := { name := "fnNums4", fn := fun _ => fun
  | [d] => { results := [.lit (.bool false)], args := [d] }
  | _ => none }
def FnNums4WrongFalsely : Prop := fnNums4Row.holds Try.pinned (OpenSpec.ofChange fnNums4Wrong)

/- THE SECOND FORM. 'bulk': how many values and letters a reading holds, each counted each time it is reached (what is shared counts as often as it is met; a slice's spare places count too). A statement '..UptoSaid' is the law's where the arguments, and the package variables that the reading takes, are together of bulk at most 1048576: NARROWER than '..Said'. Prove '..Said' where nothing that the law and all that it calls make is longer than what came in: it says more and counts as full. Else prove '..UptoSaid'. A law counts once. -/
mutual
def uptoBulk {H : Type} : DataW H → Nat
  | .lit (.string bytes) => bytes.length + 1
  | .lit _ => 1
  | .nil => 1
  | .ptr d => uptoBulk d + 1
  | .slice elems spare => uptoBulkAll elems + uptoBulkAll spare + 1
  | .agg parts => uptoBulkAll parts + 1
  | .iface _ d => uptoBulk d + 1
  | .map entries => uptoBulkEntries entries + 1
  | .held _ => 1
def uptoBulkAll {H : Type} : List (DataW H) → Nat
  | [] => 0
  | d :: r => uptoBulk d + uptoBulkAll r
def uptoBulkEntries {H : Type} : List (Lit × DataW H) → Nat
  | [] => 0
  | x :: r => uptoBulkEntry x + uptoBulkEntries r
def uptoBulkEntry {H : Type} : Lit × DataW H → Nat
  | (.string bytes, d) => bytes.length + uptoBulk d + 1
  | (_, d) => uptoBulk d + 1
 end
def uptoSmall : (H : Type) → List (DataW H) → Bool := fun _ ds => decide (uptoBulkAll ds ≤ 1048576)
def OpenSpec.upto (s : _root_.Go.ChangeSpec) : _root_.Go.OpenSpec := { _root_.Go.OpenSpec.ofChange s with cond := some uptoSmall }

/-- 'laws.FnExactApart', WHERE WHAT IT READS IS OF BULK AT MOST 1048576: true; the input reads as it did. -/
def fnExactApartUptoRow : OpenClaim := { program := "ytlijhbkmppphmaa", sum := "2936aa7f979b1a9310236b68435201209a41258bf6237963884b2db831894f26", func := "loop.example/g00072/laws.FnExactApart", spec := "fnExactApart", apart := false, narrowed := true }
def FnExactApartUptoSaid : Prop := fnExactApartUptoRow.holds Try.pinned (OpenSpec.upto fnExactApartSpec)

/-- 'laws.FnExactNearest', WHERE WHAT IT READS IS OF BULK AT MOST 1048576: true; the input reads as it did. -/
def fnExactNearestUptoRow : OpenClaim := { program := "ytlijhbkmppphmaa", sum := "2936aa7f979b1a9310236b68435201209a41258bf6237963884b2db831894f26", func := "loop.example/g00072/laws.FnExactNearest", spec := "fnExactNearest", apart := false, narrowed := true }
def FnExactNearestUptoSaid : Prop := fnExactNearestUptoRow.holds Try.pinned (OpenSpec.upto fnExactNearestSpec)

/-- 'laws.FnExactMiddle', WHERE WHAT IT READS IS OF BULK AT MOST 1048576: true; the input reads as it did. -/
def fnExactMiddleUptoRow : OpenClaim := { program := "ytlijhbkmppphmaa", sum := "2936aa7f979b1a9310236b68435201209a41258bf6237963884b2db831894f26", func := "loop.example/g00072/laws.FnExactMiddle", spec := "fnExactMiddle", apart := false, narrowed := true }
def FnExactMiddleUptoSaid : Prop := fnExactMiddleUptoRow.holds Try.pinned (OpenSpec.upto fnExactMiddleSpec)

/-- 'laws.FnExactWorse', WHERE WHAT IT READS IS OF BULK AT MOST 1048576: true; the input reads as it did. -/
def fnExactWorseUptoRow : OpenClaim := { program := "ytlijhbkmppphmaa", sum := "2936aa7f979b1a9310236b68435201209a41258bf6237963884b2db831894f26", func := "loop.example/g00072/laws.FnExactWorse", spec := "fnExactWorse", apart := false, narrowed := true }
def FnExactWorseUptoSaid : Prop := fnExactWorseUptoRow.holds Try.pinned (OpenSpec.upto fnExactWorseSpec)

/-- 'laws.FnExactLessIval', WHERE WHAT IT READS IS OF BULK AT MOST 1048576: true; the input reads as it did. -/
def fnExactLessIvalUptoRow : OpenClaim := { program := "ytlijhbkmppphmaa", sum := "2936aa7f979b1a9310236b68435201209a41258bf6237963884b2db831894f26", func := "loop.example/g00072/laws.FnExactLessIval", spec := "fnExactLessIval", apart := false, narrowed := true }
def FnExactLessIvalUptoSaid : Prop := fnExactLessIvalUptoRow.holds Try.pinned (OpenSpec.upto fnExactLessIvalSpec)

/-- 'laws.FnExactPlusIval', WHERE WHAT IT READS IS OF BULK AT MOST 1048576: true; the input reads as it did. -/
def fnExactPlusIvalUptoRow : OpenClaim := { program := "ytlijhbkmppphmaa", sum := "2936aa7f979b1a9310236b68435201209a41258bf6237963884b2db831894f26", func := "loop.example/g00072/laws.FnExactPlusIval", spec := "fnExactPlusIval", apart := false, narrowed := true }
def FnExactPlusIvalUptoSaid : Prop := fnExactPlusIvalUptoRow.holds Try.pinned (OpenSpec.upto fnExactPlusIvalSpec)

/-- 'laws.FnExactShift', WHERE WHAT IT READS IS OF BULK AT MOST 1048576: true; the input reads as it did. -/
def fnExactShiftUptoRow : OpenClaim := { program := "ytlijhbkmppphmaa", sum := "2936aa7f979b1a9310236b68435201209a41258bf6237963884b2db831894f26", func := "loop.example/g00072/laws.FnExactShift", spec := "fnExactShift", apart := false, narrowed := true }
def FnExactShiftUptoSaid : Prop := fnExactShiftUptoRow.holds Try.pinned (OpenSpec.upto fnExactShiftSpec)

/-- 'laws.FnExactSpread', WHERE WHAT IT READS IS OF BULK AT MOST 1048576: true; the input reads as it did. -/
def fnExactSpreadUptoRow : OpenClaim := { program := "ytlijhbkmppphmaa", sum := "2936aa7f979b1a9310236b68435201209a41258bf6237963884b2db831894f26", func := "loop.example/g00072/laws.FnExactSpread", spec := "fnExactSpread", apart := false, narrowed := true }
def FnExactSpreadUptoSaid : Prop := fnExactSpreadUptoRow.holds Try.pinned (OpenSpec.upto fnExactSpreadSpec)

/-- 'laws.FnExactLearn', WHERE WHAT IT READS IS OF BULK AT MOST 1048576: true; the input reads as it did. -/
def fnExactLearnUptoRow : OpenClaim := { program := "ytlijhbkmppphmaa", sum := "2936aa7f979b1a9310236b68435201209a41258bf6237963884b2db831894f26", func := "loop.example/g00072/laws.FnExactLearn", spec := "fnExactLearn", apart := false, narrowed := true }
def FnExactLearnUptoSaid : Prop := fnExactLearnUptoRow.holds Try.pinned (OpenSpec.upto fnExactLearnSpec)

/-- 'laws.FnExactCheck8', WHERE WHAT IT READS IS OF BULK AT MOST 1048576: true; the input reads as it did. -/
def fnExactCheck8UptoRow : OpenClaim := { program := "ytlijhbkmppphmaa", sum := "2936aa7f979b1a9310236b68435201209a41258bf6237963884b2db831894f26", func := "loop.example/g00072/laws.FnExactCheck8", spec := "fnExactCheck8", apart := false, narrowed := true }
def FnExactCheck8UptoSaid : Prop := fnExactCheck8UptoRow.holds Try.pinned (OpenSpec.upto fnExactCheck8Spec)

/-- 'laws.FnExactPutNum', WHERE WHAT IT READS IS OF BULK AT MOST 1048576: true; the input reads as it did. -/
def fnExactPutNumUptoRow : OpenClaim := { program := "ytlijhbkmppphmaa", sum := "2936aa7f979b1a9310236b68435201209a41258bf6237963884b2db831894f26", func := "loop.example/g00072/laws.FnExactPutNum", spec := "fnExactPutNum", apart := false, narrowed := true }
def FnExactPutNumUptoSaid : Prop := fnExactPutNumUptoRow.holds Try.pinned (OpenSpec.upto fnExactPutNumSpec)

/-- 'laws.FnExactGetNum', WHERE WHAT IT READS IS OF BULK AT MOST 1048576: true; the input reads as it did. -/
def fnExactGetNumUptoRow : OpenClaim := { program := "ytlijhbkmppphmaa", sum := "2936aa7f979b1a9310236b68435201209a41258bf6237963884b2db831894f26", func := "loop.example/g00072/laws.FnExactGetNum", spec := "fnExactGetNum", apart := false, narrowed := true }
def FnExactGetNumUptoSaid : Prop := fnExactGetNumUptoRow.holds Try.pinned (OpenSpec.upto fnExactGetNumSpec)

/-- 'laws.FnExactMsgOk', WHERE WHAT IT READS IS OF BULK AT MOST 1048576: true; the input reads as it did. -/
def fnExactMsgOkUptoRow : OpenClaim := { program := "ytlijhbkmppphmaa", sum := "2936aa7f979b1a9310236b68435201209a41258bf6237963884b2db831894f26", func := "loop.example/g00072/laws.FnExactMsgOk", spec := "fnExactMsgOk", apart := false, narrowed := true }
def FnExactMsgOkUptoSaid : Prop := fnExactMsgOkUptoRow.holds Try.pinned (OpenSpec.upto fnExactMsgOkSpec)

/-- 'laws.FnNums4', WHERE WHAT IT READS IS OF BULK AT MOST 1048576: true; the input reads as it did. -/
def fnNums4UptoRow : OpenClaim := { program := "ytlijhbkmppphmaa", sum := "2936aa7f979b1a9310236b68435201209a41258bf6237963884b2db831894f26", func := "loop.example/g00072/laws.FnNums4", spec := "fnNums4", apart := false, narrowed := true }
def FnNums4UptoSaid : Prop := fnNums4UptoRow.holds Try.pinned (OpenSpec.upto fnNums4Spec)

end Rows
end Go.Proofs.Ytlijhbkmppphmaa
