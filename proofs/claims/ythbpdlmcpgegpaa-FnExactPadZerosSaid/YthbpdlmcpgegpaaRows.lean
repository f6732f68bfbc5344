/-
  No cell of these rows narrows 'for every input' (looked for: loops, veiled, ifaces, maps, wideKeys, modest, calm, conditions, laid).
  DERIVED. THE GIVEN ROWS OF THIS SEAT. 10 by the template 'for every input the law returns true; each argument reads behind the call as it read before'; 0 by the template 'total and deterministic' (their statements: YthbpdlmcpgegpaaTotals.lean).
  GIVEN WITH THE SEED: the statements are not yours to turn. If you find one false, say at which input.
  Laid BY PROGRAM, IN A SANDBOX (cutbox-rows.mjs): the forced cells as the released guide's own fill.sh prints them over the translation ac4538b34833da31… (all of the seat's roots in one cut). By AI agents, Wed Nov 11 2026. No macro, syntax, notation, axiom, sorry.
-/
import Derived.Test.YthbpdlmcpgegpaaChecked
import GoSem.Claim
import GoSem.ClaimJoined
import GoSem.ClaimMapViews
import Derived.JoinedTies
import Derived.KernelRfl
namespace Go.Proofs.Ythbpdlmcpgegpaa
/- THE CELL 'sum', in the pinned program and in every row, IS THE sha256 OF THE DUMP (.gsa) THAT YthbpdlmcpgegpaaProg.lean LOADS. Nothing in Lean hashes anything: it is a label: what it is worth is what the hold of that sum in a sandbox is worth. -/
noncomputable def Try.pinned : Pinned := { name := "ythbpdlmcpgegpaa", sum := "ac4538b34833da3106e403de158dad9c65270ee37bacac711fc1f4a1aff1aae9", checked := Try.checked }
namespace Rows
def none {H : Type} : Left H := { results := [], args := [] }

/-- 'laws.FnExactRatOf': WHATEVER THE INPUT: true; the input reads as it did. -/
def fnExactRatOfSpec : ChangeSpec := { name := "fnExactRatOf", fn := fun _ => fun
  | [d1, d2] => { results := [.lit (.bool true)], args := [d1, d2] }
  | _ => none }
def fnExactRatOfRow : OpenClaim := { program := "ythbpdlmcpgegpaa", sum := "ac4538b34833da3106e403de158dad9c65270ee37bacac711fc1f4a1aff1aae9", func := "loop.example/g00810/laws.FnExactRatOf", spec := "fnExactRatOf", apart := false }
def FnExactRatOfSaid : Prop := fnExactRatOfRow.holds Try.pinned (OpenSpec.ofChange fnExactRatOfSpec)

/-- ITS FALSE NEIGHBOUR: 'it returns false'. Refute it at one input. -/
def fnExactRatOfWrong : ChangeSpec := { name := "fnExactRatOf", fn := fun _ => fun
  | [d1, d2] => { results := [.lit (.bool false)], args := [d1, d2] }
  | _ => none }
def FnExactRatOfWrongFalsely : Prop := fnExactRatOfRow.holds Try.pinned (OpenSpec.ofChange fnExactRatOfWrong)

/-- 'laws.FnExactBigIntFloorDiv': WHATEVER THE INPUT: true; the input reads as it did. -/
def fnExactBigIntFloorDivSpec : ChangeSpec := { name := "fnExactBigIntFloorDiv", fn := fun _ => fun
  | [d1, d2] => { results := [.lit (.bool true)], args := [d1, d2] }
  | _ => none }
def fnExactBigIntFloorDivRow : OpenClaim := { program := "ythbpdlmcpgegpaa", sum := "ac4538b34833da3106e403de158dad9c65270ee37bacac711fc1f4a1aff1aae9", func := "loop.example/g00810/laws.FnExactBigIntFloorDiv", spec := "fnExactBigIntFloorDiv", apart := false }
def FnExactBigIntFloorDivSaid : Prop := fnExactBigIntFloorDivRow.holds Try.pinned (OpenSpec.ofChange fnExactBigIntFloorDivSpec)

/-- ITS FALSE NEIGHBOUR: 'it returns false'. Refute it at one input. -/
def fnExactBigIntFloorDivWrong : ChangeSpec := { name := "fnExactBigIntFloorDiv", fn := fun _ => fun
  | [d1, d2] => { results := [.lit (.bool false)], args := [d1, d2] }
  | _ => none }
def FnExactBigIntFloorDivWrongFalsely : Prop := fnExactBigIntFloorDivRow.holds Try.pinned (OpenSpec.ofChange fnExactBigIntFloorDivWrong)

/-- 'laws.FnExactRatEqual': WHATEVER THE INPUT: true; the input reads as it did. -/
def fnExactRatEqualSpec : ChangeSpec := { name := "fnExactRatEqual", fn := fun _ => fun
  | [d1, d2] => { results := [.lit (.bool true)], args := [d1, d2] }
  | _ => none }
def fnExactRatEqualRow : OpenClaim := { program := "ythbpdlmcpgegpaa", sum := "ac4538b34833da3106e403de158dad9c65270ee37bacac711fc1f4a1aff1aae9", func := "loop.example/g00810/laws.FnExactRatEqual", spec := "fnExactRatEqual", apart := false }
def FnExactRatEqualSaid : Prop := fnExactRatEqualRow.holds Try.pinned (OpenSpec.ofChange fnExactRatEqualSpec)

/-- ITS FALSE NEIGHBOUR: 'it returns false'. Refute it at one input. -/
def fnExactRatEqualWrong : ChangeSpec := { name := "fnExactRatEqual", fn := fun _ => fun
  | [d1, d2] => { results := [.lit (.bool false)], args := [d1, d2] }
  | _ => none }
def FnExactRatEqualWrongFalsely : Prop := fnExactRatEqualRow.holds Try.pinned (OpenSpec.ofChange fnExactRatEqualWrong)

/-- 'laws.FnExactSplitAny': WHATEVER THE INPUT: true; the input reads as it did. -/
def fnExactSplitAnySpec : ChangeSpec := { name := "fnExactSplitAny", fn := fun _ => fun
  | [d1, d2] => { results := [.lit (.bool true)], args := [d1, d2] }
  | _ => none }
def fnExactSplitAnyRow : OpenClaim := { program := "ythbpdlmcpgegpaa", sum := "ac4538b34833da3106e403de158dad9c65270ee37bacac711fc1f4a1aff1aae9", func := "loop.example/g00810/laws.FnExactSplitAny", spec := "fnExactSplitAny", apart := false }
def FnExactSplitAnySaid : Prop := fnExactSplitAnyRow.holds Try.pinned (OpenSpec.ofChange fnExactSplitAnySpec)

/-- ITS FALSE NEIGHBOUR: 'it returns false'. Refute it at one input. -/
def fnExactSplitAnyWrong : ChangeSpec := { name := "fnExactSplitAny", fn := fun _ => fun
  | [d1, d2] => { results := [.lit (.bool false)], args := [d1, d2] }
  | _ => none }
def FnExactSplitAnyWrongFalsely : Prop := fnExactSplitAnyRow.holds Try.pinned (OpenSpec.ofChange fnExactSplitAnyWrong)

/-- 'laws.FnExactSplitLines': WHATEVER THE INPUT: true; the input reads as it did. -/
def fnExactSplitLinesSpec : ChangeSpec := { name := "fnExactSplitLines", fn := fun _ => fun
  | [d] => { results := [.lit (.bool true)], args := [d] }
  | _ => none }
def fnExactSplitLinesRow : OpenClaim := { program := "ythbpdlmcpgegpaa", sum := "ac4538b34833da3106e403de158dad9c65270ee37bacac711fc1f4a1aff1aae9", func := "loop.example/g00810/laws.FnExactSplitLines", spec := "fnExactSplitLines", apart := false }
def FnExactSplitLinesSaid : Prop := fnExactSplitLinesRow.holds Try.pinned (OpenSpec.ofChange fnExactSplitLinesSpec)

/-- ITS FALSE NEIGHBOUR: 'it returns false'. Refute it at one input. -/
def fnExactSplitLinesWrong : ChangeSpec := { name := "fnExactSplitLines", fn := fun _ => fun
  | [d] => { results := [.lit (.bool false)], args := [d] }
  | _ => none }
def FnExactSplitLinesWrongFalsely : Prop := fnExactSplitLinesRow.holds Try.pinned (OpenSpec.ofChange fnExactSplitLinesWrong)

/-- 'laws.FnExactRatMin': WHATEVER THE INPUT: true; the input reads as it did. -/
def fnExactRatMinSpec : ChangeSpec := { name := "fnExactRatMin", fn := fun _ => fun
  | [d1, d2] => { results := [.lit (.bool true)], args := [d1, d2] }
  | _ => none }
def fnExactRatMinRow : OpenClaim := { program := "ythbpdlmcpgegpaa", sum := "ac4538b34833da3106e403de158dad9c65270ee37bacac711fc1f4a1aff1aae9", func := "loop.example/g00810/laws.FnExactRatMin", spec := "fnExactRatMin", apart := false }
def FnExactRatMinSaid : Prop := fnExactRatMinRow.holds Try.pinned (OpenSpec.ofChange fnExactRatMinSpec)

/-- ITS FALSE NEIGHBOUR: 'it returns false'. Refute it at one input. -/
def fnExactRatMinWrong : ChangeSpec := { name := "fnExactRatMin", fn := fun _ => fun
  | [d1, d2] => { results := [.lit (.bool false)], args := [d1, d2] }
  | _ => none }
def FnExactRatMinWrongFalsely : Prop := fnExactRatMinRow.holds Try.pinned (OpenSpec.ofChange fnExactRatMinWrong)

/-- 'laws.FnExactParseNat': WHATEVER THE INPUT: true; the input reads as it did. -/
def fnExactParseNatSpec : ChangeSpec := { name := "fnExactParseNat", fn := fun _ => fun
  | [d] => { results := [.lit (.bool true)], args := [d] }
  | _ => none }
def fnExactParseNatRow : OpenClaim := { program := "ythbpdlmcpgegpaa", sum := "ac4538b34833da3106e403de158dad9c65270ee37bacac711fc1f4a1aff1aae9", func := "loop.example/g00810/laws.FnExactParseNat", spec := "fnExactParseNat", apart := false }
def FnExactParseNatSaid : Prop := fnExactParseNatRow.holds Try.pinned (OpenSpec.ofChange fnExactParseNatSpec)

/-- ITS FALSE NEIGHBOUR: 'it returns false'. Refute it at one input. -/
def fnExactParseNatWrong : ChangeSpec := { name := "fnExactParseNat", fn := fun _ => fun
  | [d] => { results := [.lit (.bool false)], args := [d] }
  | _ => none }
def FnExactParseNatWrongFalsely : Prop := fnExactParseNatRow.holds Try.pinned (OpenSpec.ofChange fnExactParseNatWrong)

/-- 'laws.FnExactParseBigInt': WHATEVER THE INPUT: true; the input reads as it did. -/
def fnExactParseBigIntSpec : ChangeSpec := { name := "fnExactParseBigInt", fn := fun _ => fun
  | [d] => { results := [.lit (.bool true)], args := [d] }
  | _ => none }
def fnExactParseBigIntRow : OpenClaim := { program := "ythbpdlmcpgegpaa", sum := "ac4538b34833da3106e403de158dad9c65270ee37bacac711fc1f4a1aff1aae9", func := "loop.example/g00810/laws.FnExactParseBigInt", spec := "fnExactParseBigInt", apart := false }
def FnExactParseBigIntSaid : Prop := fnExactParseBigIntRow.holds Try.pinned (OpenSpec.ofChange fnExactParseBigIntSpec)

/-- ITS FALSE NEIGHBOUR: 'it returns false'. Refute it at one input. -/
def fnExactParseBigIntWrong : ChangeSpec := { name := "fnExactParseBigInt", fn := fun _ => fun
  | [d] => { results := [.lit (.bool false)], args := [d] }
  | _ => none }
def FnExactParseBigIntWrongFalsely : Prop := fnExactParseBigIntRow.holds Try.pinned (OpenSpec.ofChange fnExactParseBigIntWrong)

/-- 'laws.FnExactJoin': WHATEVER THE INPUT: true; the input reads as it did. -/
def fnExactJoinSpec : ChangeSpec := { name := "fnExactJoin", fn := fun _ => fun
  | [d1, d2] => { results := [.lit (.bool true)], args := [d1, d2] }
  | _ => none }
def fnExactJoinRow : OpenClaim := { program := "ythbpdlmcpgegpaa", sum := "ac4538b34833da3106e403de158dad9c65270ee37bacac711fc1f4a1aff1aae9", func := "loop.example/g00810/laws.FnExactJoin", spec := "fnExactJoin", inPlace := ["internal/abi.NoEscape", "internal/bytealg.MakeNoZero"], apart := false }
def FnExactJoinSaid : Prop := fnExactJoinRow.holds Try.pinned (OpenSpec.ofChange fnExactJoinSpec)

/-- ITS FALSE NEIGHBOUR: 'it returns false'. Refute it at one input. -/
def fnExactJoinWrong : ChangeSpec := { name := "fnExactJoin", fn := fun _ => fun
  | [d1, d2] => { results := [.lit (.bool false)], args := [d1, d2] }
  | _ => none }
def FnExactJoinWrongFalsely : Prop := fnExactJoinRow.holds Try.pinned (OpenSpec.ofChange fnExactJoinWrong)

/-- 'laws.FnExactPadZeros': WHATEVER THE INPUT: true; the input reads as it did. -/
def fnExactPadZerosSpec : ChangeSpec := { name := "fnExactPadZeros", fn := fun _ => fun
  | [d1, d2] => { results := [.lit (.bool true)], args := [d1, d2] }
  | _ => none }
def fnExactPadZerosRow : OpenClaim := { program := "ythbpdlmcpgegpaa", sum := "ac4538b34833da3106e403de158dad9c65270ee37bacac711fc1f4a1aff1aae9", func := "loop.example/g00810/laws.FnExactPadZeros", spec := "fnExactPadZeros", inPlace := ["internal/abi.NoEscape", "internal/bytealg.MakeNoZero"], apart := false }
def FnExactPadZerosSaid : Prop := fnExactPadZerosRow.holds Try.pinned (OpenSpec.ofChange fnExactPadZerosSpec)

/-- ITS FALSE NEIGHBOUR: 'it returns false'. Refute it at one input. -/
def fnExactPadZerosWrong : ChangeSpec := { name := "fnExactPadZeros", fn := fun _ => fun
  | [d1, d2] => { results := [.lit (.bool false)], args := [d1, d2] }
  | _ => none }
def FnExactPadZerosWrongFalsely : Prop := fnExactPadZerosRow.holds Try.pinned (OpenSpec.ofChange fnExactPadZerosWrong)

/- THE SECOND FORM. 'bulk': how many values and letters a reading holds, each counted each time it is reached (what is shared counts as often as it is met; a slice's spare places count too). A statement '..UptoSaid' is the law's where the arguments, and the package variables that the reading takes, are together of bulk at most 1048576: NARROWER than '..Said'. Prove '..Said' where nothing that the law and all that it calls make is longer than what came in: it says more and counts as full. Else prove '..UptoSaid'. A law counts once. -/
mutual
def uptoBulk {H : Type} : DataW H → Nat
  | .lit (.string bytes) => bytes.length + 1
  | .lit _ => 1
  | .nil => 1
  | .ptr d => uptoBulk d + 1
  | .slice elems spare => uptoBulkAll elems + uptoBulkAll spare + 1
  | .agg parts => uptoBulkAll parts + 1
  | .iface _ d => uptoBulk d + 1
  | .map entries => uptoBulkEntries entries + 1
  | .held _ => 1
def uptoBulkAll {H : Type} : List (DataW H) → Nat
  | [] => 0
  | d :: r => uptoBulk d + uptoBulkAll r
def uptoBulkEntries {H : Type} : List (Lit × DataW H) → Nat
  | [] => 0
  | x :: r => uptoBulkEntry x + uptoBulkEntries r
def uptoBulkEntry {H : Type} : Lit × DataW H → Nat
  | (.string bytes, d) => bytes.length + uptoBulk d + 1
  | (_, d) => uptoBulk d + 1
 end
def uptoSmall : (H : Type) → List (DataW H) → Bool := fun _ ds => decide (uptoBulkAll ds ≤ 1048576)
def OpenSpec.upto (s : _root_.Go.ChangeSpec) : _root_.Go.OpenSpec := { _root_.Go.OpenSpec.ofChange s with cond := some uptoSmall }

/-- 'laws.FnExactRatOf', WHERE WHAT IT READS IS OF BULK AT MOST 1048576: true; the input reads as it did. -/
def fnExactRatOfUptoRow : OpenClaim := { program := "ythbpdlmcpgegpaa", sum := "ac4538b34833da3106e403de158dad9c65270ee37bacac711fc1f4a1aff1aae9", func := "loop.example/g00810/laws.FnExactRatOf", spec := "fnExactRatOf", apart := false, narrowed := true }
def FnExactRatOfUptoSaid : Prop := fnExactRatOfUptoRow.holds Try.pinned (OpenSpec.upto fnExactRatOfSpec)

/-- 'laws.FnExactBigIntFloorDiv', WHERE WHAT IT READS IS OF BULK AT MOST 1048576: true; the input reads as it did. -/
def fnExactBigIntFloorDivUptoRow : OpenClaim := { program := "ythbpdlmcpgegpaa", sum := "ac4538b34833da3106e403de158dad9c65270ee37bacac711fc1f4a1aff1aae9", func := "loop.example/g00810/laws.FnExactBigIntFloorDiv", spec := "fnExactBigIntFloorDiv", apart := false, narrowed := true }
def FnExactBigIntFloorDivUptoSaid : Prop := fnExactBigIntFloorDivUptoRow.holds Try.pinned (OpenSpec.upto fnExactBigIntFloorDivSpec)

/-- 'laws.FnExactRatEqual', WHERE WHAT IT READS IS OF BULK AT MOST 1048576: true; the input reads as it did. -/
def fnExactRatEqualUptoRow : OpenClaim := { program := "ythbpdlmcpgegpaa", sum := "ac4538b34833da3106e403de158dad9c65270ee37bacac711fc1f4a1aff1aae9", func := "loop.example/g00810/laws.FnExactRatEqual", spec := "fnExactRatEqual", apart := false, narrowed := true }
def FnExactRatEqualUptoSaid : Prop := fnExactRatEqualUptoRow.holds Try.pinned (OpenSpec.upto fnExactRatEqualSpec)

/-- 'laws.FnExactSplitAny', WHERE WHAT IT READS IS OF BULK AT MOST 1048576: true; the input reads as it did. -/
def fnExactSplitAnyUptoRow : OpenClaim := { program := "ythbpdlmcpgegpaa", sum := "ac4538b34833da3106e403de158dad9c65270ee37bacac711fc1f4a1aff1aae9", func := "loop.example/g00810/laws.FnExactSplitAny", spec := "fnExactSplitAny", apart := false, narrowed := true }
def FnExactSplitAnyUptoSaid : Prop := fnExactSplitAnyUptoRow.holds Try.pinned (OpenSpec.upto fnExactSplitAnySpec)

/-- 'laws.FnExactSplitLines', WHERE WHAT IT READS IS OF BULK AT MOST 1048576: true; the input reads as it did. -/
def fnExactSplitLinesUptoRow : OpenClaim := { program := "ythbpdlmcpgegpaa", sum := "ac4538b34833da3106e403de158dad9c65270ee37bacac711fc1f4a1aff1aae9", func := "loop.example/g00810/laws.FnExactSplitLines", spec := "fnExactSplitLines", apart := false, narrowed := true }
def FnExactSplitLinesUptoSaid : Prop := fnExactSplitLinesUptoRow.holds Try.pinned (OpenSpec.upto fnExactSplitLinesSpec)

/-- 'laws.FnExactRatMin', WHERE WHAT IT READS IS OF BULK AT MOST 1048576: true; the input reads as it did. -/
def fnExactRatMinUptoRow : OpenClaim := { program := "ythbpdlmcpgegpaa", sum := "ac4538b34833da3106e403de158dad9c65270ee37bacac711fc1f4a1aff1aae9", func := "loop.example/g00810/laws.FnExactRatMin", spec := "fnExactRatMin", apart := false, narrowed := true }
def FnExactRatMinUptoSaid : Prop := fnExactRatMinUptoRow.holds Try.pinned (OpenSpec.upto fnExactRatMinSpec)

/-- 'laws.FnExactParseNat', WHERE WHAT IT READS IS OF BULK AT MOST 1048576: true; the input reads as it did. -/
def fnExactParseNatUptoRow : OpenClaim := { program := "ythbpdlmcpgegpaa", sum := "ac4538b34833da3106e403de158dad9c65270ee37bacac711fc1f4a1aff1aae9", func := "loop.example/g00810/laws.FnExactParseNat", spec := "fnExactParseNat", apart := false, narrowed := true }
def FnExactParseNatUptoSaid : Prop := fnExactParseNatUptoRow.holds Try.pinned (OpenSpec.upto fnExactParseNatSpec)

/-- 'laws.FnExactParseBigInt', WHERE WHAT IT READS IS OF BULK AT MOST 1048576: true; the input reads as it did. -/
def fnExactParseBigIntUptoRow : OpenClaim := { program := "ythbpdlmcpgegpaa", sum := "ac4538b34833da3106e403de158dad9c65270ee37bacac711fc1f4a1aff1aae9", func := "loop.example/g00810/laws.FnExactParseBigInt", spec := "fnExactParseBigInt", apart := false, narrowed := true }
def FnExactParseBigIntUptoSaid : Prop := fnExactParseBigIntUptoRow.holds Try.pinned (OpenSpec.upto fnExactParseBigIntSpec)

/-- 'laws.FnExactJoin', WHERE WHAT IT READS IS OF BULK AT MOST 1048576: true; the input reads as it did. -/
def fnExactJoinUptoRow : OpenClaim := { program := "ythbpdlmcpgegpaa", sum := "ac4538b34833da3106e403de158dad9c65270ee37bacac711fc1f4a1aff1aae9", func := "loop.example/g00810/laws.FnExactJoin", spec := "fnExactJoin", inPlace := ["internal/abi.NoEscape", "internal/bytealg.MakeNoZero"], apart := false, narrowed := true }
def FnExactJoinUptoSaid : Prop := fnExactJoinUptoRow.holds Try.pinned (OpenSpec.upto fnExactJoinSpec)

/-- 'laws.FnExactPadZeros', WHERE WHAT IT READS IS OF BULK AT MOST 1048576: true; the input reads as it did. -/
def fnExactPadZerosUptoRow : OpenClaim := { program := "ythbpdlmcpgegpaa", sum := "ac4538b34833da3106e403de158dad9c65270ee37bacac711fc1f4a1aff1aae9", func := "loop.example/g00810/laws.FnExactPadZeros", spec := "fnExactPadZeros", inPlace := ["internal/abi.NoEscape", "internal/bytealg.MakeNoZero"], apart := false, narrowed := true }
def FnExactPadZerosUptoSaid : Prop := fnExactPadZerosUptoRow.holds Try.pinned (OpenSpec.upto fnExactPadZerosSpec)

end Rows
end Go.Proofs.Ythbpdlmcpgegpaa
