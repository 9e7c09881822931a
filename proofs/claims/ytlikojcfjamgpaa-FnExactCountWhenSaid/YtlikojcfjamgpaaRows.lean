/-
  No cell of these rows narrows 'for every input' (looked for: loops, veiled, ifaces, maps, wideKeys, modest, calm, conditions, laid).
  DERIVED. THE GIVEN ROWS OF THIS SEAT. 9 by the template 'for every input the law returns true; each argument reads behind the call as it read before'; 0 by the template 'total and deterministic' (their statements: YtlikojcfjamgpaaTotals.lean).
  GIVEN WITH THE SEED: the statements are not yours to turn. If you find one false, say at which input.
  Laid BY PROGRAM, IN A SANDBOX (cutbox-rows.mjs): the forced cells as the released guide's own fill.sh prints them over the translation a6680ceeb2075f4f… (all of the seat's roots in one cut). By AI agents, Wed Nov 11 2026. No macro, syntax, notation, axiom, sorry.
-/
import Derived.Test.YtlikojcfjamgpaaChecked
import GoSem.Claim
import GoSem.ClaimJoined
import GoSem.ClaimMapViews
import Derived.JoinedTies
import Derived.KernelRfl
namespace Go.Proofs.Ytlikojcfjamgpaa
/- THE CELL 'sum', in the pinned program and in every row, IS THE sha256 OF THE DUMP (.gsa) THAT YtlikojcfjamgpaaProg.lean LOADS. Nothing in Lean hashes anything: it is a label: what it is worth is what the hold of that sum in a sandbox is worth. -/
noncomputable def Try.pinned : Pinned := { name := "ytlikojcfjamgpaa", sum := "a6680ceeb2075f4f7c7f14f6e5a98951e48779e4e9da30e95e55b776a38569e0", checked := Try.checked }
namespace Rows
def none {H : Type} : Left H := { results := [], args := [] }

/-- 'laws.FnExactMarksOk': WHATEVER THE INPUT: true; the input reads as it did. -/
def fnExactMarksOkSpec : ChangeSpec := { name := "fnExactMarksOk", fn := fun _ => fun
  | [d1, d2] => { results := [.lit (.bool true)], args := [d1, d2] }
  | _ => none }
def fnExactMarksOkRow : OpenClaim := { program := "ytlikojcfjamgpaa", sum := "a6680ceeb2075f4f7c7f14f6e5a98951e48779e4e9da30e95e55b776a38569e0", func := "loop.example/g00072/laws.FnExactMarksOk", spec := "fnExactMarksOk", unfollowed := true, recurses := true, apart := false }
def FnExactMarksOkSaid : Prop := fnExactMarksOkRow.holds Try.pinned (OpenSpec.ofChange fnExactMarksOkSpec)

/-- ITS FALSE NEIGHBOUR: 'it returns false'. Refute it at one input. -/
def fnExactMarksOkWrong : ChangeSpec := { name := "fnExactMarksOk", fn := fun _ => fun
  | [d1, d2] => { results := [.lit (.bool false)], args := [d1, d2] }
  | _ => none }
def FnExactMarksOkWrongFalsely : Prop := fnExactMarksOkRow.holds Try.pinned (OpenSpec.ofChange fnExactMarksOkWrong)

/-- 'laws.FnExactMarksAll': WHATEVER THE INPUT: true; the input reads as it did. -/
def fnExactMarksAllSpec : ChangeSpec := { name := "fnExactMarksAll", fn := fun _ => fun
  | [d1, d2] => { results := [.lit (.bool true)], args := [d1, d2] }
  | _ => none }
def fnExactMarksAllRow : OpenClaim := { program := "ytlikojcfjamgpaa", sum := "a6680ceeb2075f4f7c7f14f6e5a98951e48779e4e9da30e95e55b776a38569e0", func := "loop.example/g00072/laws.FnExactMarksAll", spec := "fnExactMarksAll", unfollowed := true, recurses := true, apart := false }
def FnExactMarksAllSaid : Prop := fnExactMarksAllRow.holds Try.pinned (OpenSpec.ofChange fnExactMarksAllSpec)

/-- ITS FALSE NEIGHBOUR: 'it returns false'. Refute it at one input. -/
def fnExactMarksAllWrong : ChangeSpec := { name := "fnExactMarksAll", fn := fun _ => fun
  | [d1, d2] => { results := [.lit (.bool false)], args := [d1, d2] }
  | _ => none }
def FnExactMarksAllWrongFalsely : Prop := fnExactMarksAllRow.holds Try.pinned (OpenSpec.ofChange fnExactMarksAllWrong)

/-- 'laws.FnMarksTwo': WHATEVER THE INPUT: true; the input reads as it did. -/
def fnMarksTwoSpec : ChangeSpec := { name := "fnMarksTwo", fn := fun _ => fun
  | [d] => { results := [.lit (.bool true)], args := [d] }
  | _ => none }
def fnMarksTwoRow : OpenClaim := { program := "ytlikojcfjamgpaa", sum := "a6680ceeb2075f4f7c7f14f6e5a98951e48779e4e9da30e95e55b776a38569e0", func := "loop.example/g00072/laws.FnMarksTwo", spec := "fnMarksTwo", unfollowed := true, recurses := true, apart := false }
def FnMarksTwoSaid : Prop := fnMarksTwoRow.holds Try.pinned (OpenSpec.ofChange fnMarksTwoSpec)

/-- ITS FALSE NEIGHBOUR: 'it returns false'. Refute it at one input. -/
def fnMarksTwoWrong : ChangeSpec := { name := "fnMarksTwo", fn := fun _ => fun
  | [d] => { results := [.lit (.bool false)], args := [d] }
  | _ => none }
def FnMarksTwoWrongFalsely : Prop := fnMarksTwoRow.holds Try.pinned (OpenSpec.ofChange fnMarksTwoWrong)

/-- 'laws.FnExactElapsedAt': WHATEVER THE INPUT: true; the input reads as it did. -/
def fnExactElapsedAtSpec : ChangeSpec := { name := "fnExactElapsedAt", fn := fun _ => fun
  | [d1, d2, d3, d4] => { results := [.lit (.bool true)], args := [d1, d2, d3, d4] }
  | _ => none }
def fnExactElapsedAtRow : OpenClaim := { program := "ytlikojcfjamgpaa", sum := "a6680ceeb2075f4f7c7f14f6e5a98951e48779e4e9da30e95e55b776a38569e0", func := "loop.example/g00072/laws.FnExactElapsedAt", spec := "fnExactElapsedAt", unfollowed := true, recurses := true, apart := false }
def FnExactElapsedAtSaid : Prop := fnExactElapsedAtRow.holds Try.pinned (OpenSpec.ofChange fnExactElapsedAtSpec)

/-- ITS FALSE NEIGHBOUR: 'it returns false'. Refute it at one input. -/
def fnExactElapsedAtWrong : ChangeSpec := { name := "fnExactElapsedAt", fn := fun _ => fun
  | [d1, d2, d3, d4] => { results := [.lit (.bool false)], args := [d1, d2, d3, d4] }
  | _ => none }
def FnExactElapsedAtWrongFalsely : Prop := fnExactElapsedAtRow.holds Try.pinned (OpenSpec.ofChange fnExactElapsedAtWrong)

/-- 'laws.FnExactCountWhen': WHATEVER THE INPUT: true; the input reads as it did. -/
def fnExactCountWhenSpec : ChangeSpec := { name := "fnExactCountWhen", fn := fun _ => fun
  | [d1, d2, d3] => { results := [.lit (.bool true)], args := [d1, d2, d3] }
  | _ => none }
def fnExactCountWhenRow : OpenClaim := { program := "ytlikojcfjamgpaa", sum := "a6680ceeb2075f4f7c7f14f6e5a98951e48779e4e9da30e95e55b776a38569e0", func := "loop.example/g00072/laws.FnExactCountWhen", spec := "fnExactCountWhen", unfollowed := true, recurses := true, apart := false }
def FnExactCountWhenSaid : Prop := fnExactCountWhenRow.holds Try.pinned (OpenSpec.ofChange fnExactCountWhenSpec)

/-- ITS FALSE NEIGHBOUR: 'it returns false'. Refute it at one input. -/
def fnExactCountWhenWrong : ChangeSpec := { name := "fnExactCountWhen", fn := fun _ => fun
  | [d1, d2, d3] => { results := [.lit (.bool false)], args := [d1, d2, d3] }
  | _ => none }
def FnExactCountWhenWrongFalsely : Prop := fnExactCountWhenRow.holds Try.pinned (OpenSpec.ofChange fnExactCountWhenWrong)

/-- 'laws.FnExactTimeWhen': WHATEVER THE INPUT: true; the input reads as it did. -/
def fnExactTimeWhenSpec : ChangeSpec := { name := "fnExactTimeWhen", fn := fun _ => fun
  | [d1, d2, d3] => { results := [.lit (.bool true)], args := [d1, d2, d3] }
  | _ => none }
def fnExactTimeWhenRow : OpenClaim := { program := "ytlikojcfjamgpaa", sum := "a6680ceeb2075f4f7c7f14f6e5a98951e48779e4e9da30e95e55b776a38569e0", func := "loop.example/g00072/laws.FnExactTimeWhen", spec := "fnExactTimeWhen", unfollowed := true, recurses := true, apart := false }
def FnExactTimeWhenSaid : Prop := fnExactTimeWhenRow.holds Try.pinned (OpenSpec.ofChange fnExactTimeWhenSpec)

/-- ITS FALSE NEIGHBOUR: 'it returns false'. Refute it at one input. -/
def fnExactTimeWhenWrong : ChangeSpec := { name := "fnExactTimeWhen", fn := fun _ => fun
  | [d1, d2, d3] => { results := [.lit (.bool false)], args := [d1, d2, d3] }
  | _ => none }
def FnExactTimeWhenWrongFalsely : Prop := fnExactTimeWhenRow.holds Try.pinned (OpenSpec.ofChange fnExactTimeWhenWrong)

/-- 'laws.FnExactOscRun': WHATEVER THE INPUT: true; the input reads as it did. -/
def fnExactOscRunSpec : ChangeSpec := { name := "fnExactOscRun", fn := fun _ => fun
  | [d1, d2] => { results := [.lit (.bool true)], args := [d1, d2] }
  | _ => none }
def fnExactOscRunRow : OpenClaim := { program := "ytlikojcfjamgpaa", sum := "a6680ceeb2075f4f7c7f14f6e5a98951e48779e4e9da30e95e55b776a38569e0", func := "loop.example/g00072/laws.FnExactOscRun", spec := "fnExactOscRun", unfollowed := true, recurses := true, apart := false }
def FnExactOscRunSaid : Prop := fnExactOscRunRow.holds Try.pinned (OpenSpec.ofChange fnExactOscRunSpec)

/-- ITS FALSE NEIGHBOUR: 'it returns false'. Refute it at one input. -/
def fnExactOscRunWrong : ChangeSpec := { name := "fnExactOscRun", fn := fun _ => fun
  | [d1, d2] => { results := [.lit (.bool false)], args := [d1, d2] }
  | _ => none }
def FnExactOscRunWrongFalsely : Prop := fnExactOscRunRow.holds Try.pinned (OpenSpec.ofChange fnExactOscRunWrong)

/-- 'laws.FnMarks': WHATEVER THE INPUT: true; the input reads as it did. -/
def fnMarksSpec : ChangeSpec := { name := "fnMarks", fn := fun _ => fun
  | [d] => { results := [.lit (.bool true)], args := [d] }
  | _ => none }
def fnMarksRow : OpenClaim := { program := "ytlikojcfjamgpaa", sum := "a6680ceeb2075f4f7c7f14f6e5a98951e48779e4e9da30e95e55b776a38569e0", func := "loop.example/g00072/laws.FnMarks", spec := "fnMarks", unfollowed := true, recurses := true, apart := false }
def FnMarksSaid : Prop := fnMarksRow.holds Try.pinned (OpenSpec.ofChange fnMarksSpec)

/-- ITS FALSE NEIGHBOUR: 'it returns false'. Refute it at one input. -/
def fnMarksWrong : ChangeSpec := { name := "fnMarks", fn := fun _ => fun
  | [d] => { results := [.lit (.bool false)], args := [d] }
  | _ => none }
def FnMarksWrongFalsely : Prop := fnMarksRow.holds Try.pinned (OpenSpec.ofChange fnMarksWrong)

/-- 'laws.FnWhen': WHATEVER THE INPUT: true; the input reads as it did. -/
def fnWhenSpec : ChangeSpec := { name := "fnWhen", fn := fun _ => fun
  | [d] => { results := [.lit (.bool true)], args := [d] }
  | _ => none }
def fnWhenRow : OpenClaim := { program := "ytlikojcfjamgpaa", sum := "a6680ceeb2075f4f7c7f14f6e5a98951e48779e4e9da30e95e55b776a38569e0", func := "loop.example/g00072/laws.FnWhen", spec := "fnWhen", unfollowed := true, recurses := true, apart := false }
def FnWhenSaid : Prop := fnWhenRow.holds Try.pinned (OpenSpec.ofChange fnWhenSpec)

/-- ITS FALSE NEIGHBOUR: 'it returns false'. Refute it at one input. -/
def fnWhenWrong : ChangeSpec := { name := "fnWhen", fn := fun _ => fun
  | [d] => { results := [.lit (.bool false)], args := [d] }
  | _ => none }
def FnWhenWrongFalsely : Prop := fnWhenRow.holds Try.pinned (OpenSpec.ofChange fnWhenWrong)

/- THE SECOND FORM. 'bulk': how many values and letters a reading holds, each counted each time it is reached (what is shared counts as often as it is met; a slice's spare places count too). A statement '..UptoSaid' is the law's where the arguments, and the package variables that the reading takes, are together of bulk at most 1048576: NARROWER than '..Said'. Prove '..Said' where nothing that the law and all that it calls make is longer than what came in: it says more and counts as full. Else prove '..UptoSaid'. A law counts once. -/
mutual
def uptoBulk {H : Type} : DataW H → Nat
  | .lit (.string bytes) => bytes.length + 1
  | .lit _ => 1
  | .nil => 1
  | .ptr d => uptoBulk d + 1
  | .slice elems spare => uptoBulkAll elems + uptoBulkAll spare + 1
  | .agg parts => uptoBulkAll parts + 1
  | .iface _ d => uptoBulk d + 1
  | .map entries => uptoBulkEntries entries + 1
  | .held _ => 1
def uptoBulkAll {H : Type} : List (DataW H) → Nat
  | [] => 0
  | d :: r => uptoBulk d + uptoBulkAll r
def uptoBulkEntries {H : Type} : List (Lit × DataW H) → Nat
  | [] => 0
  | x :: r => uptoBulkEntry x + uptoBulkEntries r
def uptoBulkEntry {H : Type} : Lit × DataW H → Nat
  | (.string bytes, d) => bytes.length + uptoBulk d + 1
  | (_, d) => uptoBulk d + 1
 end
def uptoSmall : (H : Type) → List (DataW H) → Bool := fun _ ds => decide (uptoBulkAll ds ≤ 1048576)
def OpenSpec.upto (s : _root_.Go.ChangeSpec) : _root_.Go.OpenSpec := { _root_.Go.OpenSpec.ofChange s with cond := some uptoSmall }

/-- 'laws.FnExactMarksOk', WHERE WHAT IT READS IS OF BULK AT MOST 1048576: true; the input reads as it did. -/
def fnExactMarksOkUptoRow : OpenClaim := { program := "ytlikojcfjamgpaa", sum := "a6680ceeb2075f4f7c7f14f6e5a98951e48779e4e9da30e95e55b776a38569e0", func := "loop.example/g00072/laws.FnExactMarksOk", spec := "fnExactMarksOk", unfollowed := true, recurses := true, apart := false, narrowed := true }
def FnExactMarksOkUptoSaid : Prop := fnExactMarksOkUptoRow.holds Try.pinned (OpenSpec.upto fnExactMarksOkSpec)

/-- 'laws.FnExactMarksAll', WHERE WHAT IT READS IS OF BULK AT MOST 1048576: true; the input reads as it did. -/
def fnExactMarksAllUptoRow : OpenClaim := { program := "ytlikojcfjamgpaa", sum := "a6680ceeb2075f4f7c7f14f6e5a98951e48779e4e9da30e95e55b776a38569e0", func := "loop.example/g00072/laws.FnExactMarksAll", spec := "fnExactMarksAll", unfollowed := true, recurses := true, apart := false, narrowed := true }
def FnExactMarksAllUptoSaid : Prop := fnExactMarksAllUptoRow.holds Try.pinned (OpenSpec.upto fnExactMarksAllSpec)

/-- 'laws.FnMarksTwo', WHERE WHAT IT READS IS OF BULK AT MOST 1048576: true; the input reads as it did. -/
def fnMarksTwoUptoRow : OpenClaim := { program := "ytlikojcfjamgpaa", sum := "a6680ceeb2075f4f7c7f14f6e5a98951e48779e4e9da30e95e55b776a38569e0", func := "loop.example/g00072/laws.FnMarksTwo", spec := "fnMarksTwo", unfollowed := true, recurses := true, apart := false, narrowed := true }
def FnMarksTwoUptoSaid : Prop := fnMarksTwoUptoRow.holds Try.pinned (OpenSpec.upto fnMarksTwoSpec)

/-- 'laws.FnExactElapsedAt', WHERE WHAT IT READS IS OF BULK AT MOST 1048576: true; the input reads as it did. -/
def fnExactElapsedAtUptoRow : OpenClaim := { program := "ytlikojcfjamgpaa", sum := "a6680ceeb2075f4f7c7f14f6e5a98951e48779e4e9da30e95e55b776a38569e0", func := "loop.example/g00072/laws.FnExactElapsedAt", spec := "fnExactElapsedAt", unfollowed := true, recurses := true, apart := false, narrowed := true }
def FnExactElapsedAtUptoSaid : Prop := fnExactElapsedAtUptoRow.holds Try.pinned (OpenSpec.upto fnExactElapsedAtSpec)

/-- 'laws.FnExactCountWhen', WHERE WHAT IT READS IS OF BULK AT MOST 1048576: true; the input reads as it did. -/
def fnExactCountWhenUptoRow : OpenClaim := { program := "ytlikojcfjamgpaa", sum := "a6680ceeb2075f4f7c7f14f6e5a98951e48779e4e9da30e95e55b776a38569e0", func := "loop.example/g00072/laws.FnExactCountWhen", spec := "fnExactCountWhen", unfollowed := true, recurses := true, apart := false, narrowed := true }
def FnExactCountWhenUptoSaid : Prop := fnExactCountWhenUptoRow.holds Try.pinned (OpenSpec.upto fnExactCountWhenSpec)

/-- 'laws.FnExactTimeWhen', WHERE WHAT IT READS IS OF BULK AT MOST 1048576: true; the input reads as it did. -/
def fnExactTimeWhenUptoRow : OpenClaim := { program := "ytlikojcfjamgpaa", sum := "a6680ceeb2075f4f7c7f14f6e5a98951e48779e4e9da30e95e55b776a38569e0", func := "loop.example/g00072/laws.FnExactTimeWhen", spec := "fnExactTimeWhen", unfollowed := true, recurses := true, apart := false, narrowed := true }
def FnExactTimeWhenUptoSaid : Prop := fnExactTimeWhenUptoRow.holds Try.pinned (OpenSpec.upto fnExactTimeWhenSpec)

/-- 'laws.FnExactOscRun', WHERE WHAT IT READS IS OF BULK AT MOST 1048576: true; the input reads as it did. -/
def fnExactOscRunUptoRow : OpenClaim := { program := "ytlikojcfjamgpaa", sum := "a6680ceeb2075f4f7c7f14f6e5a98951e48779e4e9da30e95e55b776a38569e0", func := "loop.example/g00072/laws.FnExactOscRun", spec := "fnExactOscRun", unfollowed := true, recurses := true, apart := false, narrowed := true }
def FnExactOscRunUptoSaid : Prop := fnExactOscRunUptoRow.holds Try.pinned (OpenSpec.upto fnExactOscRunSpec)

/-- 'laws.FnMarks', WHERE WHAT IT READS IS OF BULK AT MOST 1048576: true; the input reads as it did. -/
def fnMarksUptoRow : OpenClaim := { program := "ytlikojcfjamgpaa", sum := "a6680ceeb2075f4f7c7f14f6e5a98951e48779e4e9da30e95e55b776a38569e0", func := "loop.example/g00072/laws.FnMarks", spec := "fnMarks", unfollowed := true, recurses := true, apart := false, narrowed := true }
def FnMarksUptoSaid : Prop := fnMarksUptoRow.holds Try.pinned (OpenSpec.upto fnMarksSpec)

/-- 'laws.FnWhen', WHERE WHAT IT READS IS OF BULK AT MOST 1048576: true; the input reads as it did. -/
def fnWhenUptoRow : OpenClaim := { program := "ytlikojcfjamgpaa", sum := "a6680ceeb2075f4f7c7f14f6e5a98951e48779e4e9da30e95e55b776a38569e0", func := "loop.example/g00072/laws.FnWhen", spec := "fnWhen", unfollowed := true, recurses := true, apart := false, narrowed := true }
def FnWhenUptoSaid : Prop := fnWhenUptoRow.holds Try.pinned (OpenSpec.upto fnWhenSpec)

end Rows
end Go.Proofs.Ytlikojcfjamgpaa
