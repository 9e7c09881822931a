/-
  No cell of these rows narrows 'for every input' (looked for: loops, veiled, ifaces, maps, wideKeys, modest, calm, conditions, laid).
  DERIVED. THE GIVEN ROWS OF THIS SEAT. 5 by the template 'for every input the law returns true; each argument reads behind the call as it read before'; 0 by the template 'total and deterministic' (their statements: YtlbdhjkihndehaaTotals.lean).
  GIVEN WITH THE SEED: the statements are not yours to turn. If you find one false, say at which input.
  Laid BY PROGRAM, IN A SANDBOX (cutbox-rows.mjs): the forced cells as the released guide's own fill.sh prints them over the translation 14c379c68cdd1a41… (all of the seat's roots in one cut). By AI agents, Wed Nov 11 2026. No macro, syntax, notation, axiom, sorry.
-/
import Derived.Test.YtlbdhjkihndehaaChecked
import GoSem.Claim
import GoSem.ClaimJoined
import GoSem.ClaimMapViews
import Derived.JoinedTies
import Derived.KernelRfl
namespace Go.Proofs.Ytlbdhjkihndehaa
/- THE CELL 'sum', in the pinned program and in every row, IS THE sha256 OF THE DUMP (.gsa) THAT YtlbdhjkihndehaaProg.lean LOADS. Nothing in Lean hashes anything: it is a label: what it is worth is what the hold of that sum in a sandbox is worth. -/
noncomputable def Try.pinned : Pinned := { name := "ytlbdhjkihndehaa", sum := "14c379c68cdd1a41dacc13328948f4623549247759092b0ce1a71eeaaee5debb", checked := Try.checked }
namespace Rows
def none {H : Type} : Left H := { results := [], args := [] }

/-- 'laws.FnExactNetOk': WHATEVER THE INPUT: true; the input reads as it did. -/
def fnExactNetOkSpec : ChangeSpec := { name := "fnExactNetOk", fn := fun _ => fun
  | [d] => { results := [.lit (.bool true)], args := [d] }
  | _ => none }
def fnExactNetOkRow : OpenClaim := { program := "ytlbdhjkihndehaa", sum := "14c379c68cdd1a41dacc13328948f4623549247759092b0ce1a71eeaaee5debb", func := "loop.example/g00072/laws.FnExactNetOk", spec := "fnExactNetOk", apart := false }
def FnExactNetOkSaid : Prop := fnExactNetOkRow.holds Try.pinned (OpenSpec.ofChange fnExactNetOkSpec)

/-- ITS FALSE NEIGHBOUR: 'it returns false'. Refute it at one input. -/
def fnExactNetOkWrong : ChangeSpec := { name := "fnExactNetOk", fn := fun _ => fun
  | [d] => { results := [.lit (.bool false)], args := [d] }
  | _ => none }
def FnExactNetOkWrongFalsely : Prop := fnExactNetOkRow.holds Try.pinned (OpenSpec.ofChange fnExactNetOkWrong)

/-- 'laws.FnExactNetOldest': WHATEVER THE INPUT: true; the input reads as it did. -/
def fnExactNetOldestSpec : ChangeSpec := { name := "fnExactNetOldest", fn := fun _ => fun
  | [d] => { results := [.lit (.bool true)], args := [d] }
  | _ => none }
def fnExactNetOldestRow : OpenClaim := { program := "ytlbdhjkihndehaa", sum := "14c379c68cdd1a41dacc13328948f4623549247759092b0ce1a71eeaaee5debb", func := "loop.example/g00072/laws.FnExactNetOldest", spec := "fnExactNetOldest", apart := false }
def FnExactNetOldestSaid : Prop := fnExactNetOldestRow.holds Try.pinned (OpenSpec.ofChange fnExactNetOldestSpec)

/-- ITS FALSE NEIGHBOUR: 'it returns false'. Refute it at one input. -/
def fnExactNetOldestWrong : ChangeSpec := { name := "fnExactNetOldest", fn := fun _ => fun
  | [d] => { results := [.lit (.bool false)], args := [d] }
  | _ => none }
def FnExactNetOldestWrongFalsely : Prop := fnExactNetOldestRow.holds Try.pinned (OpenSpec.ofChange fnExactNetOldestWrong)

/-- 'laws.FnMailFor': WHATEVER THE INPUT: true; the input reads as it did. -/
def fnMailForSpec : ChangeSpec := { name := "fnMailFor", fn := fun _ => fun
  | [d] => { results := [.lit (.bool true)], args := [d] }
  | _ => none }
def fnMailForRow : OpenClaim := { program := "ytlbdhjkihndehaa", sum := "14c379c68cdd1a41dacc13328948f4623549247759092b0ce1a71eeaaee5debb", func := "loop.example/g00072/laws.FnMailFor", spec := "fnMailFor", unfollowed := true, recurses := true, apart := false }
def FnMailForSaid : Prop := fnMailForRow.holds Try.pinned (OpenSpec.ofChange fnMailForSpec)

/-- ITS FALSE NEIGHBOUR: 'it returns false'. Refute it at one input. -/
def fnMailForWrong : ChangeSpec := { name := "fnMailFor", fn := fun _ => fun
  | [d] => { results := [.lit (.bool false)], args := [d] }
  | _ => none }
def FnMailForWrongFalsely : Prop := fnMailForRow.holds Try.pinned (OpenSpec.ofChange fnMailForWrong)

/-- 'laws.FnExactNetFor': WHATEVER THE INPUT: true; the input reads as it did. -/
def fnExactNetForSpec : ChangeSpec := { name := "fnExactNetFor", fn := fun _ => fun
  | [d1, d2] => { results := [.lit (.bool true)], args := [d1, d2] }
  | _ => none }
def fnExactNetForRow : OpenClaim := { program := "ytlbdhjkihndehaa", sum := "14c379c68cdd1a41dacc13328948f4623549247759092b0ce1a71eeaaee5debb", func := "loop.example/g00072/laws.FnExactNetFor", spec := "fnExactNetFor", unfollowed := true, recurses := true, apart := false }
def FnExactNetForSaid : Prop := fnExactNetForRow.holds Try.pinned (OpenSpec.ofChange fnExactNetForSpec)

/-- ITS FALSE NEIGHBOUR: 'it returns false'. Refute it at one input. -/
def fnExactNetForWrong : ChangeSpec := { name := "fnExactNetFor", fn := fun _ => fun
  | [d1, d2] => { results := [.lit (.bool false)], args := [d1, d2] }
  | _ => none }
def FnExactNetForWrongFalsely : Prop := fnExactNetForRow.holds Try.pinned (OpenSpec.ofChange fnExactNetForWrong)

/-- 'laws.FnExactNetCut': WHATEVER THE INPUT: true; the input reads as it did. -/
def fnExactNetCutSpec : ChangeSpec := { name := "fnExactNetCut", fn := fun _ => fun
  | [d1, d2] => { results := [.lit (.bool true)], args := [d1, d2] }
  | _ => none }
def fnExactNetCutRow : OpenClaim := { program := "ytlbdhjkihndehaa", sum := "14c379c68cdd1a41dacc13328948f4623549247759092b0ce1a71eeaaee5debb", func := "loop.example/g00072/laws.FnExactNetCut", spec := "fnExactNetCut", unfollowed := true, recurses := true, apart := false }
def FnExactNetCutSaid : Prop := fnExactNetCutRow.holds Try.pinned (OpenSpec.ofChange fnExactNetCutSpec)

/-- ITS FALSE NEIGHBOUR: 'it returns false'. Refute it at one input. -/
def fnExactNetCutWrong : ChangeSpec := { name := "fnExactNetCut", fn := fun _ => fun
  | [d1, d2] => { results := [.lit (.bool false)], args := [d1, d2] }
  | _ => none }
def FnExactNetCutWrongFalsely : Prop := fnExactNetCutRow.holds Try.pinned (OpenSpec.ofChange fnExactNetCutWrong)

/- THE SECOND FORM. 'bulk': how many values and letters a reading holds, each counted each time it is reached (what is shared counts as often as it is met; a slice's spare places count too). A statement '..UptoSaid' is the law's where the arguments, and the package variables that the reading takes, are together of bulk at most 1048576: NARROWER than '..Said'. Prove '..Said' where nothing that the law and all that it calls make is longer than what came in: it says more and counts as full. Else prove '..UptoSaid'. A law counts once. -/
mutual
def uptoBulk {H : Type} : DataW H → Nat
  | .lit (.string bytes) => bytes.length + 1
  | .lit _ => 1
  | .nil => 1
  | .ptr d => uptoBulk d + 1
  | .slice elems spare => uptoBulkAll elems + uptoBulkAll spare + 1
  | .agg parts => uptoBulkAll parts + 1
  | .iface _ d => uptoBulk d + 1
  | .map entries => uptoBulkEntries entries + 1
  | .held _ => 1
def uptoBulkAll {H : Type} : List (DataW H) → Nat
  | [] => 0
  | d :: r => uptoBulk d + uptoBulkAll r
def uptoBulkEntries {H : Type} : List (Lit × DataW H) → Nat
  | [] => 0
  | x :: r => uptoBulkEntry x + uptoBulkEntries r
def uptoBulkEntry {H : Type} : Lit × DataW H → Nat
  | (.string bytes, d) => bytes.length + uptoBulk d + 1
  | (_, d) => uptoBulk d + 1
 end
def uptoSmall : (H : Type) → List (DataW H) → Bool := fun _ ds => decide (uptoBulkAll ds ≤ 1048576)
def OpenSpec.upto (s : _root_.Go.ChangeSpec) : _root_.Go.OpenSpec := { _root_.Go.OpenSpec.ofChange s with cond := some uptoSmall }

/-- 'laws.FnExactNetOk', WHERE WHAT IT READS IS OF BULK AT MOST 1048576: true; the input reads as it did. -/
def fnExactNetOkUptoRow : OpenClaim := { program := "ytlbdhjkihndehaa", sum := "14c379c68cdd1a41dacc13328948f4623549247759092b0ce1a71eeaaee5debb", func := "loop.example/g00072/laws.FnExactNetOk", spec := "fnExactNetOk", apart := false, narrowed := true }
def FnExactNetOkUptoSaid : Prop := fnExactNetOkUptoRow.holds Try.pinned (OpenSpec.upto fnExactNetOkSpec)

/-- 'laws.FnExactNetOldest', WHERE WHAT IT READS IS OF BULK AT MOST 1048576: true; the input reads as it did. -/
def fnExactNetOldestUptoRow : OpenClaim := { program := "ytlbdhjkihndehaa", sum := "14c379c68cdd1a41dacc13328948f4623549247759092b0ce1a71eeaaee5debb", func := "loop.example/g00072/laws.FnExactNetOldest", spec := "fnExactNetOldest", apart := false, narrowed := true }
def FnExactNetOldestUptoSaid : Prop := fnExactNetOldestUptoRow.holds Try.pinned (OpenSpec.upto fnExactNetOldestSpec)

/-- 'laws.FnMailFor', WHERE WHAT IT READS IS OF BULK AT MOST 1048576: true; the input reads as it did. -/
def fnMailForUptoRow : OpenClaim := { program := "ytlbdhjkihndehaa", sum := "14c379c68cdd1a41dacc13328948f4623549247759092b0ce1a71eeaaee5debb", func := "loop.example/g00072/laws.FnMailFor", spec := "fnMailFor", unfollowed := true, recurses := true, apart := false, narrowed := true }
def FnMailForUptoSaid : Prop := fnMailForUptoRow.holds Try.pinned (OpenSpec.upto fnMailForSpec)

/-- 'laws.FnExactNetFor', WHERE WHAT IT READS IS OF BULK AT MOST 1048576: true; the input reads as it did. -/
def fnExactNetForUptoRow : OpenClaim := { program := "ytlbdhjkihndehaa", sum := "14c379c68cdd1a41dacc13328948f4623549247759092b0ce1a71eeaaee5debb", func := "loop.example/g00072/laws.FnExactNetFor", spec := "fnExactNetFor", unfollowed := true, recurses := true, apart := false, narrowed := true }
def FnExactNetForUptoSaid : Prop := fnExactNetForUptoRow.holds Try.pinned (OpenSpec.upto fnExactNetForSpec)

/-- 'laws.FnExactNetCut', WHERE WHAT IT READS IS OF BULK AT MOST 1048576: true; the input reads as it did. -/
def fnExactNetCutUptoRow : OpenClaim := { program := "ytlbdhjkihndehaa", sum := "14c379c68cdd1a41dacc13328948f4623549247759092b0ce1a71eeaaee5debb", func := "loop.example/g00072/laws.FnExactNetCut", spec := "fnExactNetCut", unfollowed := true, recurses := true, apart := false, narrowed := true }
def FnExactNetCutUptoSaid : Prop := fnExactNetCutUptoRow.holds Try.pinned (OpenSpec.upto fnExactNetCutSpec)

end Rows
end Go.Proofs.Ytlbdhjkihndehaa
