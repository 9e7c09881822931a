/-
  No cell of these rows narrows 'for every input' (looked for: loops, veiled, ifaces, maps, wideKeys, modest, calm, conditions, laid).
  DERIVED. THE GIVEN ROWS OF THIS SEAT. 12 by the template 'for every input the law returns true; each argument reads behind the call as it read before'; 0 by the template 'total and deterministic' (their statements: YtlgfabkffnmghaaTotals.lean).
  GIVEN WITH THE SEED: the statements are not yours to turn. If you find one false, say at which input.
  Laid BY PROGRAM, IN A SANDBOX (cutbox-rows.mjs): the forced cells as the released guide's own fill.sh prints them over the translation 4a2876128735b288… (all of the seat's roots in one cut). By AI agents, Wed Nov 11 2026. No macro, syntax, notation, axiom, sorry.
-/
import Derived.Test.YtlgfabkffnmghaaChecked
import GoSem.Claim
import GoSem.ClaimJoined
import GoSem.ClaimMapViews
import Derived.JoinedTies
import Derived.KernelRfl
namespace Go.Proofs.Ytlgfabkffnmghaa
/- THE CELL 'sum', in the pinned program and in every row, IS THE sha256 OF THE DUMP (.gsa) THAT YtlgfabkffnmghaaProg.lean LOADS. Nothing in Lean hashes anything: it is a label: what it is worth is what the hold of that sum in a sandbox is worth. -/
noncomputable def Try.pinned : Pinned := { name := "ytlgfabkffnmghaa", sum := "4a2876128735b28869873d6394be4381845bfc45ad1fedda7d03d5aa13e537db", checked := Try.checked }
namespace Rows
def none {H : Type} : Left H := { results := [], args := [] }

/-- 'laws.FnExactConstants': WHATEVER THE INPUT: true; the input reads as it did. -/
def fnExactConstantsSpec : ChangeSpec := { name := "fnExactConstants", fn := fun _ => fun
  | [] => { results := [.lit (.bool true)], args := [] }
  | _ => none }
def fnExactConstantsRow : OpenClaim := { program := "ytlgfabkffnmghaa", sum := "4a2876128735b28869873d6394be4381845bfc45ad1fedda7d03d5aa13e537db", func := "loop.example/g00072/laws.FnExactConstants", spec := "fnExactConstants", apart := false }
def FnExactConstantsSaid : Prop := fnExactConstantsRow.holds Try.pinned (OpenSpec.ofChange fnExactConstantsSpec)

/-- ITS FALSE NEIGHBOUR: 'it returns false'. Refute it at one input. -/
def fnExactConstantsWrong : ChangeSpec := { name := "fnExactConstants", fn := fun _ => fun
  | [] => { results := [.lit (.bool false)], args := [] }
  | _ => none }
def FnExactConstantsWrongFalsely : Prop := fnExactConstantsRow.holds Try.pinned (OpenSpec.ofChange fnExactConstantsWrong)

/-- 'laws.FnExactIvalOk': WHATEVER THE INPUT: true; the input reads as it did. -/
def fnExactIvalOkSpec : ChangeSpec := { name := "fnExactIvalOk", fn := fun _ => fun
  | [d] => { results := [.lit (.bool true)], args := [d] }
  | _ => none }
def fnExactIvalOkRow : OpenClaim := { program := "ytlgfabkffnmghaa", sum := "4a2876128735b28869873d6394be4381845bfc45ad1fedda7d03d5aa13e537db", func := "loop.example/g00072/laws.FnExactIvalOk", spec := "fnExactIvalOk", apart := false }
def FnExactIvalOkSaid : Prop := fnExactIvalOkRow.holds Try.pinned (OpenSpec.ofChange fnExactIvalOkSpec)

/-- ITS FALSE NEIGHBOUR: 'it returns false'. Refute it at one input. -/
def fnExactIvalOkWrong : ChangeSpec := { name := "fnExactIvalOk", fn := fun _ => fun
  | [d] => { results := [.lit (.bool false)], args := [d] }
  | _ => none }
def FnExactIvalOkWrongFalsely : Prop := fnExactIvalOkRow.holds Try.pinned (OpenSpec.ofChange fnExactIvalOkWrong)

/-- 'laws.FnExactDriftOk': WHATEVER THE INPUT: true; the input reads as it did. -/
def fnExactDriftOkSpec : ChangeSpec := { name := "fnExactDriftOk", fn := fun _ => fun
  | [d] => { results := [.lit (.bool true)], args := [d] }
  | _ => none }
def fnExactDriftOkRow : OpenClaim := { program := "ytlgfabkffnmghaa", sum := "4a2876128735b28869873d6394be4381845bfc45ad1fedda7d03d5aa13e537db", func := "loop.example/g00072/laws.FnExactDriftOk", spec := "fnExactDriftOk", apart := false }
def FnExactDriftOkSaid : Prop := fnExactDriftOkRow.holds Try.pinned (OpenSpec.ofChange fnExactDriftOkSpec)

/-- ITS FALSE NEIGHBOUR: 'it returns false'. Refute it at one input. -/
def fnExactDriftOkWrong : ChangeSpec := { name := "fnExactDriftOk", fn := fun _ => fun
  | [d] => { results := [.lit (.bool false)], args := [d] }
  | _ => none }
def FnExactDriftOkWrongFalsely : Prop := fnExactDriftOkRow.holds Try.pinned (OpenSpec.ofChange fnExactDriftOkWrong)

/-- 'laws.FnExactHolds': WHATEVER THE INPUT: true; the input reads as it did. -/
def fnExactHoldsSpec : ChangeSpec := { name := "fnExactHolds", fn := fun _ => fun
  | [d1, d2] => { results := [.lit (.bool true)], args := [d1, d2] }
  | _ => none }
def fnExactHoldsRow : OpenClaim := { program := "ytlgfabkffnmghaa", sum := "4a2876128735b28869873d6394be4381845bfc45ad1fedda7d03d5aa13e537db", func := "loop.example/g00072/laws.FnExactHolds", spec := "fnExactHolds", apart := false }
def FnExactHoldsSaid : Prop := fnExactHoldsRow.holds Try.pinned (OpenSpec.ofChange fnExactHoldsSpec)

/-- ITS FALSE NEIGHBOUR: 'it returns false'. Refute it at one input. -/
def fnExactHoldsWrong : ChangeSpec := { name := "fnExactHolds", fn := fun _ => fun
  | [d1, d2] => { results := [.lit (.bool false)], args := [d1, d2] }
  | _ => none }
def FnExactHoldsWrongFalsely : Prop := fnExactHoldsRow.holds Try.pinned (OpenSpec.ofChange fnExactHoldsWrong)

/-- 'laws.FnExactWithin': WHATEVER THE INPUT: true; the input reads as it did. -/
def fnExactWithinSpec : ChangeSpec := { name := "fnExactWithin", fn := fun _ => fun
  | [d1, d2] => { results := [.lit (.bool true)], args := [d1, d2] }
  | _ => none }
def fnExactWithinRow : OpenClaim := { program := "ytlgfabkffnmghaa", sum := "4a2876128735b28869873d6394be4381845bfc45ad1fedda7d03d5aa13e537db", func := "loop.example/g00072/laws.FnExactWithin", spec := "fnExactWithin", apart := false }
def FnExactWithinSaid : Prop := fnExactWithinRow.holds Try.pinned (OpenSpec.ofChange fnExactWithinSpec)

/-- ITS FALSE NEIGHBOUR: 'it returns false'. Refute it at one input. -/
def fnExactWithinWrong : ChangeSpec := { name := "fnExactWithin", fn := fun _ => fun
  | [d1, d2] => { results := [.lit (.bool false)], args := [d1, d2] }
  | _ => none }
def FnExactWithinWrongFalsely : Prop := fnExactWithinRow.holds Try.pinned (OpenSpec.ofChange fnExactWithinWrong)

/-- 'laws.FnExactFold': WHATEVER THE INPUT: true; the input reads as it did. -/
def fnExactFoldSpec : ChangeSpec := { name := "fnExactFold", fn := fun _ => fun
  | [d] => { results := [.lit (.bool true)], args := [d] }
  | _ => none }
def fnExactFoldRow : OpenClaim := { program := "ytlgfabkffnmghaa", sum := "4a2876128735b28869873d6394be4381845bfc45ad1fedda7d03d5aa13e537db", func := "loop.example/g00072/laws.FnExactFold", spec := "fnExactFold", apart := false }
def FnExactFoldSaid : Prop := fnExactFoldRow.holds Try.pinned (OpenSpec.ofChange fnExactFoldSpec)

/-- ITS FALSE NEIGHBOUR: 'it returns false'. Refute it at one input. -/
def fnExactFoldWrong : ChangeSpec := { name := "fnExactFold", fn := fun _ => fun
  | [d] => { results := [.lit (.bool false)], args := [d] }
  | _ => none }
def FnExactFoldWrongFalsely : Prop := fnExactFoldRow.holds Try.pinned (OpenSpec.ofChange fnExactFoldWrong)

/-- 'laws.FnExactUnfold': WHATEVER THE INPUT: true; the input reads as it did. -/
def fnExactUnfoldSpec : ChangeSpec := { name := "fnExactUnfold", fn := fun _ => fun
  | [d] => { results := [.lit (.bool true)], args := [d] }
  | _ => none }
def fnExactUnfoldRow : OpenClaim := { program := "ytlgfabkffnmghaa", sum := "4a2876128735b28869873d6394be4381845bfc45ad1fedda7d03d5aa13e537db", func := "loop.example/g00072/laws.FnExactUnfold", spec := "fnExactUnfold", apart := false }
def FnExactUnfoldSaid : Prop := fnExactUnfoldRow.holds Try.pinned (OpenSpec.ofChange fnExactUnfoldSpec)

/-- ITS FALSE NEIGHBOUR: 'it returns false'. Refute it at one input. -/
def fnExactUnfoldWrong : ChangeSpec := { name := "fnExactUnfold", fn := fun _ => fun
  | [d] => { results := [.lit (.bool false)], args := [d] }
  | _ => none }
def FnExactUnfoldWrongFalsely : Prop := fnExactUnfoldRow.holds Try.pinned (OpenSpec.ofChange fnExactUnfoldWrong)

/-- 'laws.FnMarksTwo': WHATEVER THE INPUT: true; the input reads as it did. -/
def fnMarksTwoSpec : ChangeSpec := { name := "fnMarksTwo", fn := fun _ => fun
  | [d] => { results := [.lit (.bool true)], args := [d] }
  | _ => none }
def fnMarksTwoRow : OpenClaim := { program := "ytlgfabkffnmghaa", sum := "4a2876128735b28869873d6394be4381845bfc45ad1fedda7d03d5aa13e537db", func := "loop.example/g00072/laws.FnMarksTwo", spec := "fnMarksTwo", unfollowed := true, recurses := true, apart := false }
def FnMarksTwoSaid : Prop := fnMarksTwoRow.holds Try.pinned (OpenSpec.ofChange fnMarksTwoSpec)

/-- ITS FALSE NEIGHBOUR: 'it returns false'. Refute it at one input. -/
def fnMarksTwoWrong : ChangeSpec := { name := "fnMarksTwo", fn := fun _ => fun
  | [d] => { results := [.lit (.bool false)], args := [d] }
  | _ => none }
def FnMarksTwoWrongFalsely : Prop := fnMarksTwoRow.holds Try.pinned (OpenSpec.ofChange fnMarksTwoWrong)

/-- 'laws.FnExactMayCount': WHATEVER THE INPUT: true; the input reads as it did. -/
def fnExactMayCountSpec : ChangeSpec := { name := "fnExactMayCount", fn := fun _ => fun
  | [d1, d2, d3] => { results := [.lit (.bool true)], args := [d1, d2, d3] }
  | _ => none }
def fnExactMayCountRow : OpenClaim := { program := "ytlgfabkffnmghaa", sum := "4a2876128735b28869873d6394be4381845bfc45ad1fedda7d03d5aa13e537db", func := "loop.example/g00072/laws.FnExactMayCount", spec := "fnExactMayCount", apart := false }
def FnExactMayCountSaid : Prop := fnExactMayCountRow.holds Try.pinned (OpenSpec.ofChange fnExactMayCountSpec)

/-- ITS FALSE NEIGHBOUR: 'it returns false'. Refute it at one input. -/
def fnExactMayCountWrong : ChangeSpec := { name := "fnExactMayCount", fn := fun _ => fun
  | [d1, d2, d3] => { results := [.lit (.bool false)], args := [d1, d2, d3] }
  | _ => none }
def FnExactMayCountWrongFalsely : Prop := fnExactMayCountRow.holds Try.pinned (OpenSpec.ofChange fnExactMayCountWrong)

/-- 'laws.FnExactWide': WHATEVER THE INPUT: true; the input reads as it did. -/
def fnExactWideSpec : ChangeSpec := { name := "fnExactWide", fn := fun _ => fun
  | [d] => { results := [.lit (.bool true)], args := [d] }
  | _ => none }
def fnExactWideRow : OpenClaim := { program := "ytlgfabkffnmghaa", sum := "4a2876128735b28869873d6394be4381845bfc45ad1fedda7d03d5aa13e537db", func := "loop.example/g00072/laws.FnExactWide", spec := "fnExactWide", apart := false }
def FnExactWideSaid : Prop := fnExactWideRow.holds Try.pinned (OpenSpec.ofChange fnExactWideSpec)

/-- ITS FALSE NEIGHBOUR: 'it returns false'. Refute it at one input. -/
def fnExactWideWrong : ChangeSpec := { name := "fnExactWide", fn := fun _ => fun
  | [d] => { results := [.lit (.bool false)], args := [d] }
  | _ => none }
def FnExactWideWrongFalsely : Prop := fnExactWideRow.holds Try.pinned (OpenSpec.ofChange fnExactWideWrong)

/-- 'laws.FnExactOscOk': WHATEVER THE INPUT: true; the input reads as it did. -/
def fnExactOscOkSpec : ChangeSpec := { name := "fnExactOscOk", fn := fun _ => fun
  | [d] => { results := [.lit (.bool true)], args := [d] }
  | _ => none }
def fnExactOscOkRow : OpenClaim := { program := "ytlgfabkffnmghaa", sum := "4a2876128735b28869873d6394be4381845bfc45ad1fedda7d03d5aa13e537db", func := "loop.example/g00072/laws.FnExactOscOk", spec := "fnExactOscOk", apart := false }
def FnExactOscOkSaid : Prop := fnExactOscOkRow.holds Try.pinned (OpenSpec.ofChange fnExactOscOkSpec)

/-- ITS FALSE NEIGHBOUR: 'it returns false'. Refute it at one input. -/
def fnExactOscOkWrong : ChangeSpec := { name := "fnExactOscOk", fn := fun _ => fun
  | [d] => { results := [.lit (.bool false)], args := [d] }
  | _ => none }
def FnExactOscOkWrongFalsely : Prop := fnExactOscOkRow.holds Try.pinned (OpenSpec.ofChange fnExactOscOkWrong)

/-- 'laws.FnExactLocalOk': WHATEVER THE INPUT: true; the input reads as it did. -/
def fnExactLocalOkSpec : ChangeSpec := { name := "fnExactLocalOk", fn := fun _ => fun
  | [d] => { results := [.lit (.bool true)], args := [d] }
  | _ => none }
def fnExactLocalOkRow : OpenClaim := { program := "ytlgfabkffnmghaa", sum := "4a2876128735b28869873d6394be4381845bfc45ad1fedda7d03d5aa13e537db", func := "loop.example/g00072/laws.FnExactLocalOk", spec := "fnExactLocalOk", apart := false }
def FnExactLocalOkSaid : Prop := fnExactLocalOkRow.holds Try.pinned (OpenSpec.ofChange fnExactLocalOkSpec)

/-- ITS FALSE NEIGHBOUR: 'it returns false'. Refute it at one input. -/
def fnExactLocalOkWrong : ChangeSpec := { name := "fnExactLocalOk", fn := fun _ => fun
  | [d] => { results := [.lit (.bool false)], args := [d] }
  | _ => none }
def FnExactLocalOkWrongFalsely : Prop := fnExactLocalOkRow.holds Try.pinned (OpenSpec.ofChange fnExactLocalOkWrong)

/- THE SECOND FORM. 'bulk': how many values and letters a reading holds, each counted each time it is reached (what is shared counts as often as it is met; a slice's spare places count too). A statement '..UptoSaid' is the law's where the arguments, and the package variables that the reading takes, are together of bulk at most 1048576: NARROWER than '..Said'. Prove '..Said' where nothing that the law and all that it calls make is longer than what came in: it says more and counts as full. Else prove '..UptoSaid'. A law counts once. -/
mutual
def uptoBulk {H : Type} : DataW H → Nat
  | .lit (.string bytes) => bytes.length + 1
  | .lit _ => 1
  | .nil => 1
  | .ptr d => uptoBulk d + 1
  | .slice elems spare => uptoBulkAll elems + uptoBulkAll spare + 1
  | .agg parts => uptoBulkAll parts + 1
  | .iface _ d => uptoBulk d + 1
  | .map entries => uptoBulkEntries entries + 1
  | .held _ => 1
def uptoBulkAll {H : Type} : List (DataW H) → Nat
  | [] => 0
  | d :: r => uptoBulk d + uptoBulkAll r
def uptoBulkEntries {H : Type} : List (Lit × DataW H) → Nat
  | [] => 0
  | x :: r => uptoBulkEntry x + uptoBulkEntries r
def uptoBulkEntry {H : Type} : Lit × DataW H → Nat
  | (.string bytes, d) => bytes.length + uptoBulk d + 1
  | (_, d) => uptoBulk d + 1
 end
def uptoSmall : (H : Type) → List (DataW H) → Bool := fun _ ds => decide (uptoBulkAll ds ≤ 1048576)
def OpenSpec.upto (s : _root_.Go.ChangeSpec) : _root_.Go.OpenSpec := { _root_.Go.OpenSpec.ofChange s with cond := some uptoSmall }

/-- 'laws.FnExactConstants', WHERE WHAT IT READS IS OF BULK AT MOST 1048576: true; the input reads as it did. -/
def fnExactConstantsUptoRow : OpenClaim := { program := "ytlgfabkffnmghaa", sum := "4a2876128735b28869873d6394be4381845bfc45ad1fedda7d03d5aa13e537db", func := "loop.example/g00072/laws.FnExactConstants", spec := "fnExactConstants", apart := false, narrowed := true }
def FnExactConstantsUptoSaid : Prop := fnExactConstantsUptoRow.holds Try.pinned (OpenSpec.upto fnExactConstantsSpec)

/-- 'laws.FnExactIvalOk', WHERE WHAT IT READS IS OF BULK AT MOST 1048576: true; the input reads as it did. -/
def fnExactIvalOkUptoRow : OpenClaim := { program := "ytlgfabkffnmghaa", sum := "4a2876128735b28869873d6394be4381845bfc45ad1fedda7d03d5aa13e537db", func := "loop.example/g00072/laws.FnExactIvalOk", spec := "fnExactIvalOk", apart := false, narrowed := true }
def FnExactIvalOkUptoSaid : Prop := fnExactIvalOkUptoRow.holds Try.pinned (OpenSpec.upto fnExactIvalOkSpec)

/-- 'laws.FnExactDriftOk', WHERE WHAT IT READS IS OF BULK AT MOST 1048576: true; the input reads as it did. -/
def fnExactDriftOkUptoRow : OpenClaim := { program := "ytlgfabkffnmghaa", sum := "4a2876128735b28869873d6394be4381845bfc45ad1fedda7d03d5aa13e537db", func := "loop.example/g00072/laws.FnExactDriftOk", spec := "fnExactDriftOk", apart := false, narrowed := true }
def FnExactDriftOkUptoSaid : Prop := fnExactDriftOkUptoRow.holds Try.pinned (OpenSpec.upto fnExactDriftOkSpec)

/-- 'laws.FnExactHolds', WHERE WHAT IT READS IS OF BULK AT MOST 1048576: true; the input reads as it did. -/
def fnExactHoldsUptoRow : OpenClaim := { program := "ytlgfabkffnmghaa", sum := "4a2876128735b28869873d6394be4381845bfc45ad1fedda7d03d5aa13e537db", func := "loop.example/g00072/laws.FnExactHolds", spec := "fnExactHolds", apart := false, narrowed := true }
def FnExactHoldsUptoSaid : Prop := fnExactHoldsUptoRow.holds Try.pinned (OpenSpec.upto fnExactHoldsSpec)

/-- 'laws.FnExactWithin', WHERE WHAT IT READS IS OF BULK AT MOST 1048576: true; the input reads as it did. -/
def fnExactWithinUptoRow : OpenClaim := { program := "ytlgfabkffnmghaa", sum := "4a2876128735b28869873d6394be4381845bfc45ad1fedda7d03d5aa13e537db", func := "loop.example/g00072/laws.FnExactWithin", spec := "fnExactWithin", apart := false, narrowed := true }
def FnExactWithinUptoSaid : Prop := fnExactWithinUptoRow.holds Try.pinned (OpenSpec.upto fnExactWithinSpec)

/-- 'laws.FnExactFold', WHERE WHAT IT READS IS OF BULK AT MOST 1048576: true; the input reads as it did. -/
def fnExactFoldUptoRow : OpenClaim := { program := "ytlgfabkffnmghaa", sum := "4a2876128735b28869873d6394be4381845bfc45ad1fedda7d03d5aa13e537db", func := "loop.example/g00072/laws.FnExactFold", spec := "fnExactFold", apart := false, narrowed := true }
def FnExactFoldUptoSaid : Prop := fnExactFoldUptoRow.holds Try.pinned (OpenSpec.upto fnExactFoldSpec)

/-- 'laws.FnExactUnfold', WHERE WHAT IT READS IS OF BULK AT MOST 1048576: true; the input reads as it did. -/
def fnExactUnfoldUptoRow : OpenClaim := { program := "ytlgfabkffnmghaa", sum := "4a2876128735b28869873d6394be4381845bfc45ad1fedda7d03d5aa13e537db", func := "loop.example/g00072/laws.FnExactUnfold", spec := "fnExactUnfold", apart := false, narrowed := true }
def FnExactUnfoldUptoSaid : Prop := fnExactUnfoldUptoRow.holds Try.pinned (OpenSpec.upto fnExactUnfoldSpec)

/-- 'laws.FnMarksTwo', WHERE WHAT IT READS IS OF BULK AT MOST 1048576: true; the input reads as it did. -/
def fnMarksTwoUptoRow : OpenClaim := { program := "ytlgfabkffnmghaa", sum := "4a2876128735b28869873d6394be4381845bfc45ad1fedda7d03d5aa13e537db", func := "loop.example/g00072/laws.FnMarksTwo", spec := "fnMarksTwo", unfollowed := true, recurses := true, apart := false, narrowed := true }
def FnMarksTwoUptoSaid : Prop := fnMarksTwoUptoRow.holds Try.pinned (OpenSpec.upto fnMarksTwoSpec)

/-- 'laws.FnExactMayCount', WHERE WHAT IT READS IS OF BULK AT MOST 1048576: true; the input reads as it did. -/
def fnExactMayCountUptoRow : OpenClaim := { program := "ytlgfabkffnmghaa", sum := "4a2876128735b28869873d6394be4381845bfc45ad1fedda7d03d5aa13e537db", func := "loop.example/g00072/laws.FnExactMayCount", spec := "fnExactMayCount", apart := false, narrowed := true }
def FnExactMayCountUptoSaid : Prop := fnExactMayCountUptoRow.holds Try.pinned (OpenSpec.upto fnExactMayCountSpec)

/-- 'laws.FnExactWide', WHERE WHAT IT READS IS OF BULK AT MOST 1048576: true; the input reads as it did. -/
def fnExactWideUptoRow : OpenClaim := { program := "ytlgfabkffnmghaa", sum := "4a2876128735b28869873d6394be4381845bfc45ad1fedda7d03d5aa13e537db", func := "loop.example/g00072/laws.FnExactWide", spec := "fnExactWide", apart := false, narrowed := true }
def FnExactWideUptoSaid : Prop := fnExactWideUptoRow.holds Try.pinned (OpenSpec.upto fnExactWideSpec)

/-- 'laws.FnExactOscOk', WHERE WHAT IT READS IS OF BULK AT MOST 1048576: true; the input reads as it did. -/
def fnExactOscOkUptoRow : OpenClaim := { program := "ytlgfabkffnmghaa", sum := "4a2876128735b28869873d6394be4381845bfc45ad1fedda7d03d5aa13e537db", func := "loop.example/g00072/laws.FnExactOscOk", spec := "fnExactOscOk", apart := false, narrowed := true }
def FnExactOscOkUptoSaid : Prop := fnExactOscOkUptoRow.holds Try.pinned (OpenSpec.upto fnExactOscOkSpec)

/-- 'laws.FnExactLocalOk', WHERE WHAT IT READS IS OF BULK AT MOST 1048576: true; the input reads as it did. -/
def fnExactLocalOkUptoRow : OpenClaim := { program := "ytlgfabkffnmghaa", sum := "4a2876128735b28869873d6394be4381845bfc45ad1fedda7d03d5aa13e537db", func := "loop.example/g00072/laws.FnExactLocalOk", spec := "fnExactLocalOk", apart := false, narrowed := true }
def FnExactLocalOkUptoSaid : Prop := fnExactLocalOkUptoRow.holds Try.pinned (OpenSpec.upto fnExactLocalOkSpec)

end Rows
end Go.Proofs.Ytlgfabkffnmghaa
