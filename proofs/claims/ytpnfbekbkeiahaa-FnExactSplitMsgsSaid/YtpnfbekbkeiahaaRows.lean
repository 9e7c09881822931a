/-
  No cell of these rows narrows 'for every input' (looked for: loops, veiled, ifaces, maps, wideKeys, modest, calm, conditions, laid).
  DERIVED. THE GIVEN ROWS OF THIS SEAT. 7 by the template 'for every input the law returns true; each argument reads behind the call as it read before'; 0 by the template 'total and deterministic' (their statements: YtpnfbekbkeiahaaTotals.lean).
  GIVEN WITH THE SEED: the statements are not yours to turn. If you find one false, say at which input.
  Laid BY PROGRAM, IN A SANDBOX (cutbox-rows.mjs): the forced cells as the released guide's own fill.sh prints them over the translation 3f65d10aa64a320d… (all of the seat's roots in one cut). By AI agents, Wed Nov 11 2026. No macro, syntax, notation, axiom, sorry.
-/
import Derived.Test.YtpnfbekbkeiahaaChecked
import GoSem.Claim
import GoSem.ClaimJoined
import GoSem.ClaimMapViews
import Derived.JoinedTies
import Derived.KernelRfl
namespace Go.Proofs.Ytpnfbekbkeiahaa
/- THE CELL 'sum', in the pinned program and in every row, IS THE sha256 OF THE DUMP (.gsa) THAT YtpnfbekbkeiahaaProg.lean LOADS. Nothing in Lean hashes anything: it is a label: what it is worth is what the hold of that sum in a sandbox is worth. -/
noncomputable def Try.pinned : Pinned := { name := "ytpnfbekbkeiahaa", sum := "3f65d10aa64a320d84e42e8194ad0c0dc0488d409eec699ffbaf29b12db4531c", checked := Try.checked }
namespace Rows
def none {H : Type} : Left H := { results := [], args := [] }

/-- 'laws.FnExactPack': WHATEVER THE INPUT: true; the input reads as it did. -/
def fnExactPackSpec : ChangeSpec := { name := "fnExactPack", fn := fun _ => fun
  | [d] => { results := [.lit (.bool true)], args := [d] }
  | _ => none }
def fnExactPackRow : OpenClaim := { program := "ytpnfbekbkeiahaa", sum := "3f65d10aa64a320d84e42e8194ad0c0dc0488d409eec699ffbaf29b12db4531c", func := "loop.example/g00072/laws.FnExactPack", spec := "fnExactPack", apart := false }
def FnExactPackSaid : Prop := fnExactPackRow.holds Try.pinned (OpenSpec.ofChange fnExactPackSpec)

/-- ITS FALSE NEIGHBOUR: 'it returns false'. Refute it at one input. -/
def fnExactPackWrong : ChangeSpec := { name := "fnExactPack", fn := fun _ => fun
  | [d] => { results := [.lit (.bool false)], args := [d] }
  | _ => none }
def FnExactPackWrongFalsely : Prop := fnExactPackRow.holds Try.pinned (OpenSpec.ofChange fnExactPackWrong)

/-- 'laws.FnExactUnpack': WHATEVER THE INPUT: true; the input reads as it did. -/
def fnExactUnpackSpec : ChangeSpec := { name := "fnExactUnpack", fn := fun _ => fun
  | [d] => { results := [.lit (.bool true)], args := [d] }
  | _ => none }
def fnExactUnpackRow : OpenClaim := { program := "ytpnfbekbkeiahaa", sum := "3f65d10aa64a320d84e42e8194ad0c0dc0488d409eec699ffbaf29b12db4531c", func := "loop.example/g00072/laws.FnExactUnpack", spec := "fnExactUnpack", apart := false }
def FnExactUnpackSaid : Prop := fnExactUnpackRow.holds Try.pinned (OpenSpec.ofChange fnExactUnpackSpec)

/-- ITS FALSE NEIGHBOUR: 'it returns false'. Refute it at one input. -/
def fnExactUnpackWrong : ChangeSpec := { name := "fnExactUnpack", fn := fun _ => fun
  | [d] => { results := [.lit (.bool false)], args := [d] }
  | _ => none }
def FnExactUnpackWrongFalsely : Prop := fnExactUnpackRow.holds Try.pinned (OpenSpec.ofChange fnExactUnpackWrong)

/-- 'laws.FnOneBit': WHATEVER THE INPUT: true; the input reads as it did. -/
def fnOneBitSpec : ChangeSpec := { name := "fnOneBit", fn := fun _ => fun
  | [d] => { results := [.lit (.bool true)], args := [d] }
  | _ => none }
def fnOneBitRow : OpenClaim := { program := "ytpnfbekbkeiahaa", sum := "3f65d10aa64a320d84e42e8194ad0c0dc0488d409eec699ffbaf29b12db4531c", func := "loop.example/g00072/laws.FnOneBit", spec := "fnOneBit", apart := false }
def FnOneBitSaid : Prop := fnOneBitRow.holds Try.pinned (OpenSpec.ofChange fnOneBitSpec)

/-- ITS FALSE NEIGHBOUR: 'it returns false'. Refute it at one input. -/
def fnOneBitWrong : ChangeSpec := { name := "fnOneBit", fn := fun _ => fun
  | [d] => { results := [.lit (.bool false)], args := [d] }
  | _ => none }
def FnOneBitWrongFalsely : Prop := fnOneBitRow.holds Try.pinned (OpenSpec.ofChange fnOneBitWrong)

/-- 'laws.FnExactJoinMsgs': WHATEVER THE INPUT: true; the input reads as it did. -/
def fnExactJoinMsgsSpec : ChangeSpec := { name := "fnExactJoinMsgs", fn := fun _ => fun
  | [d] => { results := [.lit (.bool true)], args := [d] }
  | _ => none }
def fnExactJoinMsgsRow : OpenClaim := { program := "ytpnfbekbkeiahaa", sum := "3f65d10aa64a320d84e42e8194ad0c0dc0488d409eec699ffbaf29b12db4531c", func := "loop.example/g00072/laws.FnExactJoinMsgs", spec := "fnExactJoinMsgs", apart := false }
def FnExactJoinMsgsSaid : Prop := fnExactJoinMsgsRow.holds Try.pinned (OpenSpec.ofChange fnExactJoinMsgsSpec)

/-- ITS FALSE NEIGHBOUR: 'it returns false'. Refute it at one input. -/
def fnExactJoinMsgsWrong : ChangeSpec := { name := "fnExactJoinMsgs", fn := fun _ => fun
  | [d] => { results := [.lit (.bool false)], args := [d] }
  | _ => none }
def FnExactJoinMsgsWrongFalsely : Prop := fnExactJoinMsgsRow.holds Try.pinned (OpenSpec.ofChange fnExactJoinMsgsWrong)

/-- 'laws.FnExactSplitMsgs': WHATEVER THE INPUT: true; the input reads as it did. -/
def fnExactSplitMsgsSpec : ChangeSpec := { name := "fnExactSplitMsgs", fn := fun _ => fun
  | [d] => { results := [.lit (.bool true)], args := [d] }
  | _ => none }
def fnExactSplitMsgsRow : OpenClaim := { program := "ytpnfbekbkeiahaa", sum := "3f65d10aa64a320d84e42e8194ad0c0dc0488d409eec699ffbaf29b12db4531c", func := "loop.example/g00072/laws.FnExactSplitMsgs", spec := "fnExactSplitMsgs", apart := false }
def FnExactSplitMsgsSaid : Prop := fnExactSplitMsgsRow.holds Try.pinned (OpenSpec.ofChange fnExactSplitMsgsSpec)

/-- ITS FALSE NEIGHBOUR: 'it returns false'. Refute it at one input. -/
def fnExactSplitMsgsWrong : ChangeSpec := { name := "fnExactSplitMsgs", fn := fun _ => fun
  | [d] => { results := [.lit (.bool false)], args := [d] }
  | _ => none }
def FnExactSplitMsgsWrongFalsely : Prop := fnExactSplitMsgsRow.holds Try.pinned (OpenSpec.ofChange fnExactSplitMsgsWrong)

/-- 'laws.FnStream': WHATEVER THE INPUT: true; the input reads as it did. -/
def fnStreamSpec : ChangeSpec := { name := "fnStream", fn := fun _ => fun
  | [d] => { results := [.lit (.bool true)], args := [d] }
  | _ => none }
def fnStreamRow : OpenClaim := { program := "ytpnfbekbkeiahaa", sum := "3f65d10aa64a320d84e42e8194ad0c0dc0488d409eec699ffbaf29b12db4531c", func := "loop.example/g00072/laws.FnStream", spec := "fnStream", apart := false }
def FnStreamSaid : Prop := fnStreamRow.holds Try.pinned (OpenSpec.ofChange fnStreamSpec)

/-- ITS FALSE NEIGHBOUR: 'it returns false'. Refute it at one input. -/
def fnStreamWrong : ChangeSpec := { name := "fnStream", fn := fun _ => fun
  | [d] => { results := [.lit (.bool false)], args := [d] }
  | _ => none }
def FnStreamWrongFalsely : Prop := fnStreamRow.holds Try.pinned (OpenSpec.ofChange fnStreamWrong)

/-- 'laws.FnWire': WHATEVER THE INPUT: true; the input reads as it did. -/
def fnWireSpec : ChangeSpec := { name := "fnWire", fn := fun _ => fun
  | [d] => { results := [.lit (.bool true)], args := [d] }
  | _ => none }
def fnWireRow : OpenClaim := { program := "ytpnfbekbkeiahaa", sum := "3f65d10aa64a320d84e42e8194ad0c0dc0488d409eec699ffbaf29b12db4531c", func := "loop.example/g00072/laws.FnWire", spec := "fnWire", apart := false }
def FnWireSaid : Prop := fnWireRow.holds Try.pinned (OpenSpec.ofChange fnWireSpec)

/-- ITS FALSE NEIGHBOUR: 'it returns false'. Refute it at one input. -/
def fnWireWrong : ChangeSpec := { name := "fnWire", fn := fun _ => fun
  | [d] => { results := [.lit (.bool false)], args := [d] }
  | _ => none }
def FnWireWrongFalsely : Prop := fnWireRow.holds Try.pinned (OpenSpec.ofChange fnWireWrong)

/- THE SECOND FORM. 'bulk': how many values and letters a reading holds, each counted each time it is reached (what is shared counts as often as it is met; a slice's spare places count too). A statement '..UptoSaid' is the law's where the arguments, and the package variables that the reading takes, are together of bulk at most 1048576: NARROWER than '..Said'. Prove '..Said' where nothing that the law and all that it calls make is longer than what came in: it says more and counts as full. Else prove '..UptoSaid'. A law counts once. -/
mutual
def uptoBulk {H : Type} : DataW H → Nat
  | .lit (.string bytes) => bytes.length + 1
  | .lit _ => 1
  | .nil => 1
  | .ptr d => uptoBulk d + 1
  | .slice elems spare => uptoBulkAll elems + uptoBulkAll spare + 1
  | .agg parts => uptoBulkAll parts + 1
  | .iface _ d => uptoBulk d + 1
  | .map entries => uptoBulkEntries entries + 1
  | .held _ => 1
def uptoBulkAll {H : Type} : List (DataW H) → Nat
  | [] => 0
  | d :: r => uptoBulk d + uptoBulkAll r
def uptoBulkEntries {H : Type} : List (Lit × DataW H) → Nat
  | [] => 0
  | x :: r => uptoBulkEntry x + uptoBulkEntries r
def uptoBulkEntry {H : Type} : Lit × DataW H → Nat
  | (.string bytes, d) => bytes.length + uptoBulk d + 1
  | (_, d) => uptoBulk d + 1
 end
def uptoSmall : (H : Type) → List (DataW H) → Bool := fun _ ds => decide (uptoBulkAll ds ≤ 1048576)
def OpenSpec.upto (s : _root_.Go.ChangeSpec) : _root_.Go.OpenSpec := { _root_.Go.OpenSpec.ofChange s with cond := some uptoSmall }

/-- 'laws.FnExactPack', WHERE WHAT IT READS IS OF BULK AT MOST 1048576: true; the input reads as it did. -/
def fnExactPackUptoRow : OpenClaim := { program := "ytpnfbekbkeiahaa", sum := "3f65d10aa64a320d84e42e8194ad0c0dc0488d409eec699ffbaf29b12db4531c", func := "loop.example/g00072/laws.FnExactPack", spec := "fnExactPack", apart := false, narrowed := true }
def FnExactPackUptoSaid : Prop := fnExactPackUptoRow.holds Try.pinned (OpenSpec.upto fnExactPackSpec)

/-- 'laws.FnExactUnpack', WHERE WHAT IT READS IS OF BULK AT MOST 1048576: true; the input reads as it did. -/
def fnExactUnpackUptoRow : OpenClaim := { program := "ytpnfbekbkeiahaa", sum := "3f65d10aa64a320d84e42e8194ad0c0dc0488d409eec699ffbaf29b12db4531c", func := "loop.example/g00072/laws.FnExactUnpack", spec := "fnExactUnpack", apart := false, narrowed := true }
def FnExactUnpackUptoSaid : Prop := fnExactUnpackUptoRow.holds Try.pinned (OpenSpec.upto fnExactUnpackSpec)

/-- 'laws.FnOneBit', WHERE WHAT IT READS IS OF BULK AT MOST 1048576: true; the input reads as it did. -/
def fnOneBitUptoRow : OpenClaim := { program := "ytpnfbekbkeiahaa", sum := "3f65d10aa64a320d84e42e8194ad0c0dc0488d409eec699ffbaf29b12db4531c", func := "loop.example/g00072/laws.FnOneBit", spec := "fnOneBit", apart := false, narrowed := true }
def FnOneBitUptoSaid : Prop := fnOneBitUptoRow.holds Try.pinned (OpenSpec.upto fnOneBitSpec)

/-- 'laws.FnExactJoinMsgs', WHERE WHAT IT READS IS OF BULK AT MOST 1048576: true; the input reads as it did. -/
def fnExactJoinMsgsUptoRow : OpenClaim := { program := "ytpnfbekbkeiahaa", sum := "3f65d10aa64a320d84e42e8194ad0c0dc0488d409eec699ffbaf29b12db4531c", func := "loop.example/g00072/laws.FnExactJoinMsgs", spec := "fnExactJoinMsgs", apart := false, narrowed := true }
def FnExactJoinMsgsUptoSaid : Prop := fnExactJoinMsgsUptoRow.holds Try.pinned (OpenSpec.upto fnExactJoinMsgsSpec)

/-- 'laws.FnExactSplitMsgs', WHERE WHAT IT READS IS OF BULK AT MOST 1048576: true; the input reads as it did. -/
def fnExactSplitMsgsUptoRow : OpenClaim := { program := "ytpnfbekbkeiahaa", sum := "3f65d10aa64a320d84e42e8194ad0c0dc0488d409eec699ffbaf29b12db4531c", func := "loop.example/g00072/laws.FnExactSplitMsgs", spec := "fnExactSplitMsgs", apart := false, narrowed := true }
def FnExactSplitMsgsUptoSaid : Prop := fnExactSplitMsgsUptoRow.holds Try.pinned (OpenSpec.upto fnExactSplitMsgsSpec)

/-- 'laws.FnStream', WHERE WHAT IT READS IS OF BULK AT MOST 1048576: true; the input reads as it did. -/
def fnStreamUptoRow : OpenClaim := { program := "ytpnfbekbkeiahaa", sum := "3f65d10aa64a320d84e42e8194ad0c0dc0488d409eec699ffbaf29b12db4531c", func := "loop.example/g00072/laws.FnStream", spec := "fnStream", apart := false, narrowed := true }
def FnStreamUptoSaid : Prop := fnStreamUptoRow.holds Try.pinned (OpenSpec.upto fnStreamSpec)

/-- 'laws.FnWire', WHERE WHAT IT READS IS OF BULK AT MOST 1048576: true; the input reads as it did. -/
def fnWireUptoRow : OpenClaim := { program := "ytpnfbekbkeiahaa", sum := "3f65d10aa64a320d84e42e8194ad0c0dc0488d409eec699ffbaf29b12db4531c", func := "loop.example/g00072/laws.FnWire", spec := "fnWire", apart := false, narrowed := true }
def FnWireUptoSaid : Prop := fnWireUptoRow.holds Try.pinned (OpenSpec.upto fnWireSpec)

end Rows
end Go.Proofs.Ytpnfbekbkeiahaa
