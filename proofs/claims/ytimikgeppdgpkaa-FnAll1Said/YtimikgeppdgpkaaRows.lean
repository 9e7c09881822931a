/-
  No cell of these rows narrows 'for every input' (looked for: loops, veiled, ifaces, maps, wideKeys, modest, calm, conditions, laid).
  DERIVED. THE GIVEN ROWS OF THIS SEAT. 16 by the template 'for every input the law returns true; each argument reads behind the call as it read before'; 0 by the template 'total and deterministic' (their statements: YtimikgeppdgpkaaTotals.lean).
  GIVEN WITH THE SEED: the statements are not yours to turn. If you find one false, say at which input.
  Laid BY PROGRAM, IN A SANDBOX (cutbox-rows.mjs): the forced cells as the released guide's own fill.sh prints them over the translation 9528719f8fcc5239… (all of the seat's roots in one cut). By AI agents, Wed Nov 11 2026. No macro, syntax, notation, axiom, sorry.
-/
import Derived.Test.YtimikgeppdgpkaaChecked
import GoSem.Claim
import GoSem.ClaimJoined
import GoSem.ClaimMapViews
import Derived.JoinedTies
import Derived.KernelRfl
namespace Go.Proofs.Ytimikgeppdgpkaa
/- THE CELL 'sum', in the pinned program and in every row, IS THE sha256 OF THE DUMP (.gsa) THAT YtimikgeppdgpkaaProg.lean LOADS. Nothing in Lean hashes anything: it is a label: what it is worth is what the hold of that sum in a sandbox is worth. -/
noncomputable def Try.pinned : Pinned := { name := "ytimikgeppdgpkaa", sum := "9528719f8fcc52398568b59ef0c1541d2a53ad2a06c79bd5d3638fcce69f362e", checked := Try.checked }
namespace Rows
def none {H : Type} : Left H := { results := [], args := [] }

/-- 'laws.FnExactMostCount': WHATEVER THE INPUT: true; the input reads as it did. -/
def fnExactMostCountSpec : ChangeSpec := { name := "fnExactMostCount", fn := fun _ => fun
  | [d1, d2] => { results := [.lit (.bool true)], args := [d1, d2] }
  | _ => none }
def fnExactMostCountRow : OpenClaim := { program := "ytimikgeppdgpkaa", sum := "9528719f8fcc52398568b59ef0c1541d2a53ad2a06c79bd5d3638fcce69f362e", func := "loop.example/g00072/laws.FnExactMostCount", spec := "fnExactMostCount", unfollowed := true, recurses := true, apart := false }
def FnExactMostCountSaid : Prop := fnExactMostCountRow.holds Try.pinned (OpenSpec.ofChange fnExactMostCountSpec)

/-- ITS FALSE NEIGHBOUR: 'it returns false'. Refute it at one input. -/
def fnExactMostCountWrong : ChangeSpec := { name := "fnExactMostCount", fn := fun _ => fun
  | [d1, d2] => { results := [.lit (.bool false)], args := [d1, d2] }
  | _ => none }
def FnExactMostCountWrongFalsely : Prop := fnExactMostCountRow.holds Try.pinned (OpenSpec.ofChange fnExactMostCountWrong)

/-- 'laws.FnExactMostTime': WHATEVER THE INPUT: true; the input reads as it did. -/
def fnExactMostTimeSpec : ChangeSpec := { name := "fnExactMostTime", fn := fun _ => fun
  | [d1, d2] => { results := [.lit (.bool true)], args := [d1, d2] }
  | _ => none }
def fnExactMostTimeRow : OpenClaim := { program := "ytimikgeppdgpkaa", sum := "9528719f8fcc52398568b59ef0c1541d2a53ad2a06c79bd5d3638fcce69f362e", func := "loop.example/g00072/laws.FnExactMostTime", spec := "fnExactMostTime", unfollowed := true, recurses := true, apart := false }
def FnExactMostTimeSaid : Prop := fnExactMostTimeRow.holds Try.pinned (OpenSpec.ofChange fnExactMostTimeSpec)

/-- ITS FALSE NEIGHBOUR: 'it returns false'. Refute it at one input. -/
def fnExactMostTimeWrong : ChangeSpec := { name := "fnExactMostTime", fn := fun _ => fun
  | [d1, d2] => { results := [.lit (.bool false)], args := [d1, d2] }
  | _ => none }
def FnExactMostTimeWrongFalsely : Prop := fnExactMostTimeRow.holds Try.pinned (OpenSpec.ofChange fnExactMostTimeWrong)

/-- 'laws.FnExactLeastCount': WHATEVER THE INPUT: true; the input reads as it did. -/
def fnExactLeastCountSpec : ChangeSpec := { name := "fnExactLeastCount", fn := fun _ => fun
  | [d1, d2] => { results := [.lit (.bool true)], args := [d1, d2] }
  | _ => none }
def fnExactLeastCountRow : OpenClaim := { program := "ytimikgeppdgpkaa", sum := "9528719f8fcc52398568b59ef0c1541d2a53ad2a06c79bd5d3638fcce69f362e", func := "loop.example/g00072/laws.FnExactLeastCount", spec := "fnExactLeastCount", unfollowed := true, recurses := true, apart := false }
def FnExactLeastCountSaid : Prop := fnExactLeastCountRow.holds Try.pinned (OpenSpec.ofChange fnExactLeastCountSpec)

/-- ITS FALSE NEIGHBOUR: 'it returns false'. Refute it at one input. -/
def fnExactLeastCountWrong : ChangeSpec := { name := "fnExactLeastCount", fn := fun _ => fun
  | [d1, d2] => { results := [.lit (.bool false)], args := [d1, d2] }
  | _ => none }
def FnExactLeastCountWrongFalsely : Prop := fnExactLeastCountRow.holds Try.pinned (OpenSpec.ofChange fnExactLeastCountWrong)

/-- 'laws.FnExactLeastTime': WHATEVER THE INPUT: true; the input reads as it did. -/
def fnExactLeastTimeSpec : ChangeSpec := { name := "fnExactLeastTime", fn := fun _ => fun
  | [d1, d2] => { results := [.lit (.bool true)], args := [d1, d2] }
  | _ => none }
def fnExactLeastTimeRow : OpenClaim := { program := "ytimikgeppdgpkaa", sum := "9528719f8fcc52398568b59ef0c1541d2a53ad2a06c79bd5d3638fcce69f362e", func := "loop.example/g00072/laws.FnExactLeastTime", spec := "fnExactLeastTime", unfollowed := true, recurses := true, apart := false }
def FnExactLeastTimeSaid : Prop := fnExactLeastTimeRow.holds Try.pinned (OpenSpec.ofChange fnExactLeastTimeSpec)

/-- ITS FALSE NEIGHBOUR: 'it returns false'. Refute it at one input. -/
def fnExactLeastTimeWrong : ChangeSpec := { name := "fnExactLeastTime", fn := fun _ => fun
  | [d1, d2] => { results := [.lit (.bool false)], args := [d1, d2] }
  | _ => none }
def FnExactLeastTimeWrongFalsely : Prop := fnExactLeastTimeRow.holds Try.pinned (OpenSpec.ofChange fnExactLeastTimeWrong)

/-- 'laws.FnExactBetween': WHATEVER THE INPUT: true; the input reads as it did. -/
def fnExactBetweenSpec : ChangeSpec := { name := "fnExactBetween", fn := fun _ => fun
  | [d1, d2] => { results := [.lit (.bool true)], args := [d1, d2] }
  | _ => none }
def fnExactBetweenRow : OpenClaim := { program := "ytimikgeppdgpkaa", sum := "9528719f8fcc52398568b59ef0c1541d2a53ad2a06c79bd5d3638fcce69f362e", func := "loop.example/g00072/laws.FnExactBetween", spec := "fnExactBetween", unfollowed := true, recurses := true, apart := false }
def FnExactBetweenSaid : Prop := fnExactBetweenRow.holds Try.pinned (OpenSpec.ofChange fnExactBetweenSpec)

/-- ITS FALSE NEIGHBOUR: 'it returns false'. Refute it at one input. -/
def fnExactBetweenWrong : ChangeSpec := { name := "fnExactBetween", fn := fun _ => fun
  | [d1, d2] => { results := [.lit (.bool false)], args := [d1, d2] }
  | _ => none }
def FnExactBetweenWrongFalsely : Prop := fnExactBetweenRow.holds Try.pinned (OpenSpec.ofChange fnExactBetweenWrong)

/-- 'laws.FnExactClamp': WHATEVER THE INPUT: true; the input reads as it did. -/
def fnExactClampSpec : ChangeSpec := { name := "fnExactClamp", fn := fun _ => fun
  | [d1, d2, d3] => { results := [.lit (.bool true)], args := [d1, d2, d3] }
  | _ => none }
def fnExactClampRow : OpenClaim := { program := "ytimikgeppdgpkaa", sum := "9528719f8fcc52398568b59ef0c1541d2a53ad2a06c79bd5d3638fcce69f362e", func := "loop.example/g00072/laws.FnExactClamp", spec := "fnExactClamp", unfollowed := true, recurses := true, apart := false }
def FnExactClampSaid : Prop := fnExactClampRow.holds Try.pinned (OpenSpec.ofChange fnExactClampSpec)

/-- ITS FALSE NEIGHBOUR: 'it returns false'. Refute it at one input. -/
def fnExactClampWrong : ChangeSpec := { name := "fnExactClamp", fn := fun _ => fun
  | [d1, d2, d3] => { results := [.lit (.bool false)], args := [d1, d2, d3] }
  | _ => none }
def FnExactClampWrongFalsely : Prop := fnExactClampRow.holds Try.pinned (OpenSpec.ofChange fnExactClampWrong)

/-- 'laws.FnBetween': WHATEVER THE INPUT: true; the input reads as it did. -/
def fnBetweenSpec : ChangeSpec := { name := "fnBetween", fn := fun _ => fun
  | [d] => { results := [.lit (.bool true)], args := [d] }
  | _ => none }
def fnBetweenRow : OpenClaim := { program := "ytimikgeppdgpkaa", sum := "9528719f8fcc52398568b59ef0c1541d2a53ad2a06c79bd5d3638fcce69f362e", func := "loop.example/g00072/laws.FnBetween", spec := "fnBetween", unfollowed := true, recurses := true, apart := false }
def FnBetweenSaid : Prop := fnBetweenRow.holds Try.pinned (OpenSpec.ofChange fnBetweenSpec)

/-- ITS FALSE NEIGHBOUR: 'it returns false'. Refute it at one input. -/
def fnBetweenWrong : ChangeSpec := { name := "fnBetween", fn := fun _ => fun
  | [d] => { results := [.lit (.bool false)], args := [d] }
  | _ => none }
def FnBetweenWrongFalsely : Prop := fnBetweenRow.holds Try.pinned (OpenSpec.ofChange fnBetweenWrong)

/-- 'laws.FnExactOscStep': WHATEVER THE INPUT: true; the input reads as it did. -/
def fnExactOscStepSpec : ChangeSpec := { name := "fnExactOscStep", fn := fun _ => fun
  | [d1, d2] => { results := [.lit (.bool true)], args := [d1, d2] }
  | _ => none }
def fnExactOscStepRow : OpenClaim := { program := "ytimikgeppdgpkaa", sum := "9528719f8fcc52398568b59ef0c1541d2a53ad2a06c79bd5d3638fcce69f362e", func := "loop.example/g00072/laws.FnExactOscStep", spec := "fnExactOscStep", unfollowed := true, recurses := true, apart := false }
def FnExactOscStepSaid : Prop := fnExactOscStepRow.holds Try.pinned (OpenSpec.ofChange fnExactOscStepSpec)

/-- ITS FALSE NEIGHBOUR: 'it returns false'. Refute it at one input. -/
def fnExactOscStepWrong : ChangeSpec := { name := "fnExactOscStep", fn := fun _ => fun
  | [d1, d2] => { results := [.lit (.bool false)], args := [d1, d2] }
  | _ => none }
def FnExactOscStepWrongFalsely : Prop := fnExactOscStepRow.holds Try.pinned (OpenSpec.ofChange fnExactOscStepWrong)

/-- 'laws.FnExactCarryOn': WHATEVER THE INPUT: true; the input reads as it did. -/
def fnExactCarryOnSpec : ChangeSpec := { name := "fnExactCarryOn", fn := fun _ => fun
  | [d1, d2, d3] => { results := [.lit (.bool true)], args := [d1, d2, d3] }
  | _ => none }
def fnExactCarryOnRow : OpenClaim := { program := "ytimikgeppdgpkaa", sum := "9528719f8fcc52398568b59ef0c1541d2a53ad2a06c79bd5d3638fcce69f362e", func := "loop.example/g00072/laws.FnExactCarryOn", spec := "fnExactCarryOn", unfollowed := true, recurses := true, apart := false }
def FnExactCarryOnSaid : Prop := fnExactCarryOnRow.holds Try.pinned (OpenSpec.ofChange fnExactCarryOnSpec)

/-- ITS FALSE NEIGHBOUR: 'it returns false'. Refute it at one input. -/
def fnExactCarryOnWrong : ChangeSpec := { name := "fnExactCarryOn", fn := fun _ => fun
  | [d1, d2, d3] => { results := [.lit (.bool false)], args := [d1, d2, d3] }
  | _ => none }
def FnExactCarryOnWrongFalsely : Prop := fnExactCarryOnRow.holds Try.pinned (OpenSpec.ofChange fnExactCarryOnWrong)

/-- 'laws.FnStretches': WHATEVER THE INPUT: true; the input reads as it did. -/
def fnStretchesSpec : ChangeSpec := { name := "fnStretches", fn := fun _ => fun
  | [d] => { results := [.lit (.bool true)], args := [d] }
  | _ => none }
def fnStretchesRow : OpenClaim := { program := "ytimikgeppdgpkaa", sum := "9528719f8fcc52398568b59ef0c1541d2a53ad2a06c79bd5d3638fcce69f362e", func := "loop.example/g00072/laws.FnStretches", spec := "fnStretches", unfollowed := true, recurses := true, apart := false }
def FnStretchesSaid : Prop := fnStretchesRow.holds Try.pinned (OpenSpec.ofChange fnStretchesSpec)

/-- ITS FALSE NEIGHBOUR: 'it returns false'. Refute it at one input. -/
def fnStretchesWrong : ChangeSpec := { name := "fnStretches", fn := fun _ => fun
  | [d] => { results := [.lit (.bool false)], args := [d] }
  | _ => none }
def FnStretchesWrongFalsely : Prop := fnStretchesRow.holds Try.pinned (OpenSpec.ofChange fnStretchesWrong)

/-- 'laws.FnExactJoin': WHATEVER THE INPUT: true; the input reads as it did. -/
def fnExactJoinSpec : ChangeSpec := { name := "fnExactJoin", fn := fun _ => fun
  | [d1, d2] => { results := [.lit (.bool true)], args := [d1, d2] }
  | _ => none }
def fnExactJoinRow : OpenClaim := { program := "ytimikgeppdgpkaa", sum := "9528719f8fcc52398568b59ef0c1541d2a53ad2a06c79bd5d3638fcce69f362e", func := "loop.example/g00072/laws.FnExactJoin", spec := "fnExactJoin", unfollowed := true, recurses := true, apart := false }
def FnExactJoinSaid : Prop := fnExactJoinRow.holds Try.pinned (OpenSpec.ofChange fnExactJoinSpec)

/-- ITS FALSE NEIGHBOUR: 'it returns false'. Refute it at one input. -/
def fnExactJoinWrong : ChangeSpec := { name := "fnExactJoin", fn := fun _ => fun
  | [d1, d2] => { results := [.lit (.bool false)], args := [d1, d2] }
  | _ => none }
def FnExactJoinWrongFalsely : Prop := fnExactJoinRow.holds Try.pinned (OpenSpec.ofChange fnExactJoinWrong)

/-- 'laws.FnExactMeet': WHATEVER THE INPUT: true; the input reads as it did. -/
def fnExactMeetSpec : ChangeSpec := { name := "fnExactMeet", fn := fun _ => fun
  | [d1, d2] => { results := [.lit (.bool true)], args := [d1, d2] }
  | _ => none }
def fnExactMeetRow : OpenClaim := { program := "ytimikgeppdgpkaa", sum := "9528719f8fcc52398568b59ef0c1541d2a53ad2a06c79bd5d3638fcce69f362e", func := "loop.example/g00072/laws.FnExactMeet", spec := "fnExactMeet", unfollowed := true, recurses := true, apart := false }
def FnExactMeetSaid : Prop := fnExactMeetRow.holds Try.pinned (OpenSpec.ofChange fnExactMeetSpec)

/-- ITS FALSE NEIGHBOUR: 'it returns false'. Refute it at one input. -/
def fnExactMeetWrong : ChangeSpec := { name := "fnExactMeet", fn := fun _ => fun
  | [d1, d2] => { results := [.lit (.bool false)], args := [d1, d2] }
  | _ => none }
def FnExactMeetWrongFalsely : Prop := fnExactMeetRow.holds Try.pinned (OpenSpec.ofChange fnExactMeetWrong)

/-- 'laws.FnExactJoinAll': WHATEVER THE INPUT: true; the input reads as it did. -/
def fnExactJoinAllSpec : ChangeSpec := { name := "fnExactJoinAll", fn := fun _ => fun
  | [d] => { results := [.lit (.bool true)], args := [d] }
  | _ => none }
def fnExactJoinAllRow : OpenClaim := { program := "ytimikgeppdgpkaa", sum := "9528719f8fcc52398568b59ef0c1541d2a53ad2a06c79bd5d3638fcce69f362e", func := "loop.example/g00072/laws.FnExactJoinAll", spec := "fnExactJoinAll", unfollowed := true, recurses := true, apart := false }
def FnExactJoinAllSaid : Prop := fnExactJoinAllRow.holds Try.pinned (OpenSpec.ofChange fnExactJoinAllSpec)

/-- ITS FALSE NEIGHBOUR: 'it returns false'. Refute it at one input. -/
def fnExactJoinAllWrong : ChangeSpec := { name := "fnExactJoinAll", fn := fun _ => fun
  | [d] => { results := [.lit (.bool false)], args := [d] }
  | _ => none }
def FnExactJoinAllWrongFalsely : Prop := fnExactJoinAllRow.holds Try.pinned (OpenSpec.ofChange fnExactJoinAllWrong)

/-- 'laws.FnExactMeetAll': WHATEVER THE INPUT: true; the input reads as it did. -/
def fnExactMeetAllSpec : ChangeSpec := { name := "fnExactMeetAll", fn := fun _ => fun
  | [d] => { results := [.lit (.bool true)], args := [d] }
  | _ => none }
def fnExactMeetAllRow : OpenClaim := { program := "ytimikgeppdgpkaa", sum := "9528719f8fcc52398568b59ef0c1541d2a53ad2a06c79bd5d3638fcce69f362e", func := "loop.example/g00072/laws.FnExactMeetAll", spec := "fnExactMeetAll", unfollowed := true, recurses := true, apart := false }
def FnExactMeetAllSaid : Prop := fnExactMeetAllRow.holds Try.pinned (OpenSpec.ofChange fnExactMeetAllSpec)

/-- ITS FALSE NEIGHBOUR: 'it returns false'. Refute it at one input. -/
def fnExactMeetAllWrong : ChangeSpec := { name := "fnExactMeetAll", fn := fun _ => fun
  | [d] => { results := [.lit (.bool false)], args := [d] }
  | _ => none }
def FnExactMeetAllWrongFalsely : Prop := fnExactMeetAllRow.holds Try.pinned (OpenSpec.ofChange fnExactMeetAllWrong)

/-- 'laws.FnMeets': WHATEVER THE INPUT: true; the input reads as it did. -/
def fnMeetsSpec : ChangeSpec := { name := "fnMeets", fn := fun _ => fun
  | [d] => { results := [.lit (.bool true)], args := [d] }
  | _ => none }
def fnMeetsRow : OpenClaim := { program := "ytimikgeppdgpkaa", sum := "9528719f8fcc52398568b59ef0c1541d2a53ad2a06c79bd5d3638fcce69f362e", func := "loop.example/g00072/laws.FnMeets", spec := "fnMeets", unfollowed := true, recurses := true, apart := false }
def FnMeetsSaid : Prop := fnMeetsRow.holds Try.pinned (OpenSpec.ofChange fnMeetsSpec)

/-- ITS FALSE NEIGHBOUR: 'it returns false'. Refute it at one input. -/
def fnMeetsWrong : ChangeSpec := { name := "fnMeets", fn := fun _ => fun
  | [d] => { results := [.lit (.bool false)], args := [d] }
  | _ => none }
def FnMeetsWrongFalsely : Prop := fnMeetsRow.holds Try.pinned (OpenSpec.ofChange fnMeetsWrong)

/-- 'laws.FnAll1': WHATEVER THE INPUT: true; the input reads as it did. -/
def fnAll1Spec : ChangeSpec := { name := "fnAll1", fn := fun _ => fun
  | [d] => { results := [.lit (.bool true)], args := [d] }
  | _ => none }
def fnAll1Row : OpenClaim := { program := "ytimikgeppdgpkaa", sum := "9528719f8fcc52398568b59ef0c1541d2a53ad2a06c79bd5d3638fcce69f362e", func := "loop.example/g00072/laws.FnAll1", spec := "fnAll1", unfollowed := true, recurses := true, apart := false }
def FnAll1Said : Prop := fnAll1Row.holds Try.pinned (OpenSpec.ofChange fnAll1Spec)

/-- ITS FALSE NEIGHBOUR: 'it returns false'. Refute it at one input. -/
def fnAll1Wrong : ChangeSpec := { name := "fnAll1", fn := fun _ => fun
  | [d] => { results := [.lit (.bool false)], args := [d] }
  | _ => none }
def FnAll1WrongFalsely : Prop := fnAll1Row.holds Try.pinned (OpenSpec.ofChange fnAll1Wrong)

/- THE SECOND FORM. 'bulk': how many values and letters a reading holds, each counted each time it is reached (what is shared counts as often as it is met; a slice's spare places count too). A statement '..UptoSaid' is the law's where the arguments, and the package variables that the reading takes, are together of bulk at most 1048576: NARROWER than '..Said'. Prove '..Said' where nothing that the law and all that it calls make is longer than what came in: it says more and counts as full. Else prove '..UptoSaid'. A law counts once. -/
mutual
def uptoBulk {H : Type} : DataW H → Nat
  | .lit (.string bytes) => bytes.length + 1
  | .lit _ => 1
  | .nil => 1
  | .ptr d => uptoBulk d + 1
  | .slice elems spare => uptoBulkAll elems + uptoBulkAll spare + 1
  | .agg parts => uptoBulkAll parts + 1
  | .iface _ d => uptoBulk d + 1
  | .map entries => uptoBulkEntries entries + 1
  | .held _ => 1
def uptoBulkAll {H : Type} : List (DataW H) → Nat
  | [] => 0
  | d :: r => uptoBulk d + uptoBulkAll r
def uptoBulkEntries {H : Type} : List (Lit × DataW H) → Nat
  | [] => 0
  | x :: r => uptoBulkEntry x + uptoBulkEntries r
def uptoBulkEntry {H : Type} : Lit × DataW H → Nat
  | (.string bytes, d) => bytes.length + uptoBulk d + 1
  | (_, d) => uptoBulk d + 1
 end
def uptoSmall : (H : Type) → List (DataW H) → Bool := fun _ ds => decide (uptoBulkAll ds ≤ 1048576)
def OpenSpec.upto (s : _root_.Go.ChangeSpec) : _root_.Go.OpenSpec := { _root_.Go.OpenSpec.ofChange s with cond := some uptoSmall }

/-- 'laws.FnExactMostCount', WHERE WHAT IT READS IS OF BULK AT MOST 1048576: true; the input reads as it did. -/
def fnExactMostCountUptoRow : OpenClaim := { program := "ytimikgeppdgpkaa", sum := "9528719f8fcc52398568b59ef0c1541d2a53ad2a06c79bd5d3638fcce69f362e", func := "loop.example/g00072/laws.FnExactMostCount", spec := "fnExactMostCount", unfollowed := true, recurses := true, apart := false, narrowed := true }
def FnExactMostCountUptoSaid : Prop := fnExactMostCountUptoRow.holds Try.pinned (OpenSpec.upto fnExactMostCountSpec)

/-- 'laws.FnExactMostTime', WHERE WHAT IT READS IS OF BULK AT MOST 1048576: true; the input reads as it did. -/
def fnExactMostTimeUptoRow : OpenClaim := { program := "ytimikgeppdgpkaa", sum := "9528719f8fcc52398568b59ef0c1541d2a53ad2a06c79bd5d3638fcce69f362e", func := "loop.example/g00072/laws.FnExactMostTime", spec := "fnExactMostTime", unfollowed := true, recurses := true, apart := false, narrowed := true }
def FnExactMostTimeUptoSaid : Prop := fnExactMostTimeUptoRow.holds Try.pinned (OpenSpec.upto fnExactMostTimeSpec)

/-- 'laws.FnExactLeastCount', WHERE WHAT IT READS IS OF BULK AT MOST 1048576: true; the input reads as it did. -/
def fnExactLeastCountUptoRow : OpenClaim := { program := "ytimikgeppdgpkaa", sum := "9528719f8fcc52398568b59ef0c1541d2a53ad2a06c79bd5d3638fcce69f362e", func := "loop.example/g00072/laws.FnExactLeastCount", spec := "fnExactLeastCount", unfollowed := true, recurses := true, apart := false, narrowed := true }
def FnExactLeastCountUptoSaid : Prop := fnExactLeastCountUptoRow.holds Try.pinned (OpenSpec.upto fnExactLeastCountSpec)

/-- 'laws.FnExactLeastTime', WHERE WHAT IT READS IS OF BULK AT MOST 1048576: true; the input reads as it did. -/
def fnExactLeastTimeUptoRow : OpenClaim := { program := "ytimikgeppdgpkaa", sum := "9528719f8fcc52398568b59ef0c1541d2a53ad2a06c79bd5d3638fcce69f362e", func := "loop.example/g00072/laws.FnExactLeastTime", spec := "fnExactLeastTime", unfollowed := true, recurses := true, apart := false, narrowed := true }
def FnExactLeastTimeUptoSaid : Prop := fnExactLeastTimeUptoRow.holds Try.pinned (OpenSpec.upto fnExactLeastTimeSpec)

/-- 'laws.FnExactBetween', WHERE WHAT IT READS IS OF BULK AT MOST 1048576: true; the input reads as it did. -/
def fnExactBetweenUptoRow : OpenClaim := { program := "ytimikgeppdgpkaa", sum := "9528719f8fcc52398568b59ef0c1541d2a53ad2a06c79bd5d3638fcce69f362e", func := "loop.example/g00072/laws.FnExactBetween", spec := "fnExactBetween", unfollowed := true, recurses := true, apart := false, narrowed := true }
def FnExactBetweenUptoSaid : Prop := fnExactBetweenUptoRow.holds Try.pinned (OpenSpec.upto fnExactBetweenSpec)

/-- 'laws.FnExactClamp', WHERE WHAT IT READS IS OF BULK AT MOST 1048576: true; the input reads as it did. -/
def fnExactClampUptoRow : OpenClaim := { program := "ytimikgeppdgpkaa", sum := "9528719f8fcc52398568b59ef0c1541d2a53ad2a06c79bd5d3638fcce69f362e", func := "loop.example/g00072/laws.FnExactClamp", spec := "fnExactClamp", unfollowed := true, recurses := true, apart := false, narrowed := true }
def FnExactClampUptoSaid : Prop := fnExactClampUptoRow.holds Try.pinned (OpenSpec.upto fnExactClampSpec)

/-- 'laws.FnBetween', WHERE WHAT IT READS IS OF BULK AT MOST 1048576: true; the input reads as it did. -/
def fnBetweenUptoRow : OpenClaim := { program := "ytimikgeppdgpkaa", sum := "9528719f8fcc52398568b59ef0c1541d2a53ad2a06c79bd5d3638fcce69f362e", func := "loop.example/g00072/laws.FnBetween", spec := "fnBetween", unfollowed := true, recurses := true, apart := false, narrowed := true }
def FnBetweenUptoSaid : Prop := fnBetweenUptoRow.holds Try.pinned (OpenSpec.upto fnBetweenSpec)

/-- 'laws.FnExactOscStep', WHERE WHAT IT READS IS OF BULK AT MOST 1048576: true; the input reads as it did. -/
def fnExactOscStepUptoRow : OpenClaim := { program := "ytimikgeppdgpkaa", sum := "9528719f8fcc52398568b59ef0c1541d2a53ad2a06c79bd5d3638fcce69f362e", func := "loop.example/g00072/laws.FnExactOscStep", spec := "fnExactOscStep", unfollowed := true, recurses := true, apart := false, narrowed := true }
def FnExactOscStepUptoSaid : Prop := fnExactOscStepUptoRow.holds Try.pinned (OpenSpec.upto fnExactOscStepSpec)

/-- 'laws.FnExactCarryOn', WHERE WHAT IT READS IS OF BULK AT MOST 1048576: true; the input reads as it did. -/
def fnExactCarryOnUptoRow : OpenClaim := { program := "ytimikgeppdgpkaa", sum := "9528719f8fcc52398568b59ef0c1541d2a53ad2a06c79bd5d3638fcce69f362e", func := "loop.example/g00072/laws.FnExactCarryOn", spec := "fnExactCarryOn", unfollowed := true, recurses := true, apart := false, narrowed := true }
def FnExactCarryOnUptoSaid : Prop := fnExactCarryOnUptoRow.holds Try.pinned (OpenSpec.upto fnExactCarryOnSpec)

/-- 'laws.FnStretches', WHERE WHAT IT READS IS OF BULK AT MOST 1048576: true; the input reads as it did. -/
def fnStretchesUptoRow : OpenClaim := { program := "ytimikgeppdgpkaa", sum := "9528719f8fcc52398568b59ef0c1541d2a53ad2a06c79bd5d3638fcce69f362e", func := "loop.example/g00072/laws.FnStretches", spec := "fnStretches", unfollowed := true, recurses := true, apart := false, narrowed := true }
def FnStretchesUptoSaid : Prop := fnStretchesUptoRow.holds Try.pinned (OpenSpec.upto fnStretchesSpec)

/-- 'laws.FnExactJoin', WHERE WHAT IT READS IS OF BULK AT MOST 1048576: true; the input reads as it did. -/
def fnExactJoinUptoRow : OpenClaim := { program := "ytimikgeppdgpkaa", sum := "9528719f8fcc52398568b59ef0c1541d2a53ad2a06c79bd5d3638fcce69f362e", func := "loop.example/g00072/laws.FnExactJoin", spec := "fnExactJoin", unfollowed := true, recurses := true, apart := false, narrowed := true }
def FnExactJoinUptoSaid : Prop := fnExactJoinUptoRow.holds Try.pinned (OpenSpec.upto fnExactJoinSpec)

/-- 'laws.FnExactMeet', WHERE WHAT IT READS IS OF BULK AT MOST 1048576: true; the input reads as it did. -/
def fnExactMeetUptoRow : OpenClaim := { program := "ytimikgeppdgpkaa", sum := "9528719f8fcc52398568b59ef0c1541d2a53ad2a06c79bd5d3638fcce69f362e", func := "loop.example/g00072/laws.FnExactMeet", spec := "fnExactMeet", unfollowed := true, recurses := true, apart := false, narrowed := true }
def FnExactMeetUptoSaid : Prop := fnExactMeetUptoRow.holds Try.pinned (OpenSpec.upto fnExactMeetSpec)

/-- 'laws.FnExactJoinAll', WHERE WHAT IT READS IS OF BULK AT MOST 1048576: true; the input reads as it did. -/
def fnExactJoinAllUptoRow : OpenClaim := { program := "ytimikgeppdgpkaa", sum := "9528719f8fcc52398568b59ef0c1541d2a53ad2a06c79bd5d3638fcce69f362e", func := "loop.example/g00072/laws.FnExactJoinAll", spec := "fnExactJoinAll", unfollowed := true, recurses := true, apart := false, narrowed := true }
def FnExactJoinAllUptoSaid : Prop := fnExactJoinAllUptoRow.holds Try.pinned (OpenSpec.upto fnExactJoinAllSpec)

/-- 'laws.FnExactMeetAll', WHERE WHAT IT READS IS OF BULK AT MOST 1048576: true; the input reads as it did. -/
def fnExactMeetAllUptoRow : OpenClaim := { program := "ytimikgeppdgpkaa", sum := "9528719f8fcc52398568b59ef0c1541d2a53ad2a06c79bd5d3638fcce69f362e", func := "loop.example/g00072/laws.FnExactMeetAll", spec := "fnExactMeetAll", unfollowed := true, recurses := true, apart := false, narrowed := true }
def FnExactMeetAllUptoSaid : Prop := fnExactMeetAllUptoRow.holds Try.pinned (OpenSpec.upto fnExactMeetAllSpec)

/-- 'laws.FnMeets', WHERE WHAT IT READS IS OF BULK AT MOST 1048576: true; the input reads as it did. -/
def fnMeetsUptoRow : OpenClaim := { program := "ytimikgeppdgpkaa", sum := "9528719f8fcc52398568b59ef0c1541d2a53ad2a06c79bd5d3638fcce69f362e", func := "loop.example/g00072/laws.FnMeets", spec := "fnMeets", unfollowed := true, recurses := true, apart := false, narrowed := true }
def FnMeetsUptoSaid : Prop := fnMeetsUptoRow.holds Try.pinned (OpenSpec.upto fnMeetsSpec)

/-- 'laws.FnAll1', WHERE WHAT IT READS IS OF BULK AT MOST 1048576: true; the input reads as it did. -/
def fnAll1UptoRow : OpenClaim := { program := "ytimikgeppdgpkaa", sum := "9528719f8fcc52398568b59ef0c1541d2a53ad2a06c79bd5d3638fcce69f362e", func := "loop.example/g00072/laws.FnAll1", spec := "fnAll1", unfollowed := true, recurses := true, apart := false, narrowed := true }
def FnAll1UptoSaid : Prop := fnAll1UptoRow.holds Try.pinned (OpenSpec.upto fnAll1Spec)

end Rows
end Go.Proofs.Ytimikgeppdgpkaa
