/-
  No cell of these rows narrows 'for every input' (looked for: loops, veiled, ifaces, maps, wideKeys, modest, calm, conditions, laid).
  DERIVED. THE GIVEN ROWS OF THIS SEAT. 12 by the template 'for every input the law returns true; each argument reads behind the call as it read before'; 0 by the template 'total and deterministic' (their statements: YtglhddfdjopbdaaTotals.lean).
  GIVEN WITH THE SEED: the statements are not yours to turn. If you find one false, say at which input.
  Laid BY PROGRAM, IN A SANDBOX (cutbox-rows.mjs): the forced cells as the released guide's own fill.sh prints them over the translation cef925789c2f4aff… (all of the seat's roots in one cut). By AI agents, Wed Nov 11 2026. No macro, syntax, notation, axiom, sorry.
-/
import Derived.Test.YtglhddfdjopbdaaChecked
import GoSem.Claim
import GoSem.ClaimJoined
import GoSem.ClaimMapViews
import Derived.JoinedTies
import Derived.KernelRfl
namespace Go.Proofs.Ytglhddfdjopbdaa
/- THE CELL 'sum', in the pinned program and in every row, IS THE sha256 OF THE DUMP (.gsa) THAT YtglhddfdjopbdaaProg.lean LOADS. Nothing in Lean hashes anything: it is a label: what it is worth is what the hold of that sum in a sandbox is worth. -/
noncomputable def Try.pinned : Pinned := { name := "ytglhddfdjopbdaa", sum := "cef925789c2f4aff4a4bca1d17b138f0d8cea1bff7088f59a739e5b2734aec2f", checked := Try.checked }
namespace Rows
def none {H : Type} : Left H := { results := [], args := [] }

/-- 'laws.FnExactBigIntFloorDiv': WHATEVER THE INPUT: true; the input reads as it did. -/
def fnExactBigIntFloorDivSpec : ChangeSpec := { name := "fnExactBigIntFloorDiv", fn := fun _ => fun
  | [d1, d2] => { results := [.lit (.bool true)], args := [d1, d2] }
  | _ => none }
def fnExactBigIntFloorDivRow : OpenClaim := { program := "ytglhddfdjopbdaa", sum := "cef925789c2f4aff4a4bca1d17b138f0d8cea1bff7088f59a739e5b2734aec2f", func := "loop.example/g00810/laws.FnExactBigIntFloorDiv", spec := "fnExactBigIntFloorDiv", apart := false }
def FnExactBigIntFloorDivSaid : Prop := fnExactBigIntFloorDivRow.holds Try.pinned (OpenSpec.ofChange fnExactBigIntFloorDivSpec)

/-- ITS FALSE NEIGHBOUR: 'it returns false'. Refute it at one input. -/
def fnExactBigIntFloorDivWrong : ChangeSpec := { name := "fnExactBigIntFloorDiv", fn := fun _ => fun
  | [d1, d2] => { results := [.lit (.bool false)], args := [d1, d2] }
  | _ => none }
def FnExactBigIntFloorDivWrongFalsely : Prop := fnExactBigIntFloorDivRow.holds Try.pinned (OpenSpec.ofChange fnExactBigIntFloorDivWrong)

/-- 'laws.FnExactRatOk': WHATEVER THE INPUT: true; the input reads as it did. -/
def fnExactRatOkSpec : ChangeSpec := { name := "fnExactRatOk", fn := fun _ => fun
  | [d] => { results := [.lit (.bool true)], args := [d] }
  | _ => none }
def fnExactRatOkRow : OpenClaim := { program := "ytglhddfdjopbdaa", sum := "cef925789c2f4aff4a4bca1d17b138f0d8cea1bff7088f59a739e5b2734aec2f", func := "loop.example/g00810/laws.FnExactRatOk", spec := "fnExactRatOk", apart := false }
def FnExactRatOkSaid : Prop := fnExactRatOkRow.holds Try.pinned (OpenSpec.ofChange fnExactRatOkSpec)

/-- ITS FALSE NEIGHBOUR: 'it returns false'. Refute it at one input. -/
def fnExactRatOkWrong : ChangeSpec := { name := "fnExactRatOk", fn := fun _ => fun
  | [d] => { results := [.lit (.bool false)], args := [d] }
  | _ => none }
def FnExactRatOkWrongFalsely : Prop := fnExactRatOkRow.holds Try.pinned (OpenSpec.ofChange fnExactRatOkWrong)

/-- 'laws.FnExactRatSign': WHATEVER THE INPUT: true; the input reads as it did. -/
def fnExactRatSignSpec : ChangeSpec := { name := "fnExactRatSign", fn := fun _ => fun
  | [d] => { results := [.lit (.bool true)], args := [d] }
  | _ => none }
def fnExactRatSignRow : OpenClaim := { program := "ytglhddfdjopbdaa", sum := "cef925789c2f4aff4a4bca1d17b138f0d8cea1bff7088f59a739e5b2734aec2f", func := "loop.example/g00810/laws.FnExactRatSign", spec := "fnExactRatSign", apart := false }
def FnExactRatSignSaid : Prop := fnExactRatSignRow.holds Try.pinned (OpenSpec.ofChange fnExactRatSignSpec)

/-- ITS FALSE NEIGHBOUR: 'it returns false'. Refute it at one input. -/
def fnExactRatSignWrong : ChangeSpec := { name := "fnExactRatSign", fn := fun _ => fun
  | [d] => { results := [.lit (.bool false)], args := [d] }
  | _ => none }
def FnExactRatSignWrongFalsely : Prop := fnExactRatSignRow.holds Try.pinned (OpenSpec.ofChange fnExactRatSignWrong)

/-- 'laws.FnExactRatOf': WHATEVER THE INPUT: true; the input reads as it did. -/
def fnExactRatOfSpec : ChangeSpec := { name := "fnExactRatOf", fn := fun _ => fun
  | [d1, d2] => { results := [.lit (.bool true)], args := [d1, d2] }
  | _ => none }
def fnExactRatOfRow : OpenClaim := { program := "ytglhddfdjopbdaa", sum := "cef925789c2f4aff4a4bca1d17b138f0d8cea1bff7088f59a739e5b2734aec2f", func := "loop.example/g00810/laws.FnExactRatOf", spec := "fnExactRatOf", apart := false }
def FnExactRatOfSaid : Prop := fnExactRatOfRow.holds Try.pinned (OpenSpec.ofChange fnExactRatOfSpec)

/-- ITS FALSE NEIGHBOUR: 'it returns false'. Refute it at one input. -/
def fnExactRatOfWrong : ChangeSpec := { name := "fnExactRatOf", fn := fun _ => fun
  | [d1, d2] => { results := [.lit (.bool false)], args := [d1, d2] }
  | _ => none }
def FnExactRatOfWrongFalsely : Prop := fnExactRatOfRow.holds Try.pinned (OpenSpec.ofChange fnExactRatOfWrong)

/-- 'laws.FnExactRatCmp': WHATEVER THE INPUT: true; the input reads as it did. -/
def fnExactRatCmpSpec : ChangeSpec := { name := "fnExactRatCmp", fn := fun _ => fun
  | [d1, d2] => { results := [.lit (.bool true)], args := [d1, d2] }
  | _ => none }
def fnExactRatCmpRow : OpenClaim := { program := "ytglhddfdjopbdaa", sum := "cef925789c2f4aff4a4bca1d17b138f0d8cea1bff7088f59a739e5b2734aec2f", func := "loop.example/g00810/laws.FnExactRatCmp", spec := "fnExactRatCmp", apart := false }
def FnExactRatCmpSaid : Prop := fnExactRatCmpRow.holds Try.pinned (OpenSpec.ofChange fnExactRatCmpSpec)

/-- ITS FALSE NEIGHBOUR: 'it returns false'. Refute it at one input. -/
def fnExactRatCmpWrong : ChangeSpec := { name := "fnExactRatCmp", fn := fun _ => fun
  | [d1, d2] => { results := [.lit (.bool false)], args := [d1, d2] }
  | _ => none }
def FnExactRatCmpWrongFalsely : Prop := fnExactRatCmpRow.holds Try.pinned (OpenSpec.ofChange fnExactRatCmpWrong)

/-- 'laws.FnExactRatMake': WHATEVER THE INPUT: true; the input reads as it did. -/
def fnExactRatMakeSpec : ChangeSpec := { name := "fnExactRatMake", fn := fun _ => fun
  | [d1, d2] => { results := [.lit (.bool true)], args := [d1, d2] }
  | _ => none }
def fnExactRatMakeRow : OpenClaim := { program := "ytglhddfdjopbdaa", sum := "cef925789c2f4aff4a4bca1d17b138f0d8cea1bff7088f59a739e5b2734aec2f", func := "loop.example/g00810/laws.FnExactRatMake", spec := "fnExactRatMake", apart := false }
def FnExactRatMakeSaid : Prop := fnExactRatMakeRow.holds Try.pinned (OpenSpec.ofChange fnExactRatMakeSpec)

/-- ITS FALSE NEIGHBOUR: 'it returns false'. Refute it at one input. -/
def fnExactRatMakeWrong : ChangeSpec := { name := "fnExactRatMake", fn := fun _ => fun
  | [d1, d2] => { results := [.lit (.bool false)], args := [d1, d2] }
  | _ => none }
def FnExactRatMakeWrongFalsely : Prop := fnExactRatMakeRow.holds Try.pinned (OpenSpec.ofChange fnExactRatMakeWrong)

/-- 'laws.FnExactRatNeg': WHATEVER THE INPUT: true; the input reads as it did. -/
def fnExactRatNegSpec : ChangeSpec := { name := "fnExactRatNeg", fn := fun _ => fun
  | [d] => { results := [.lit (.bool true)], args := [d] }
  | _ => none }
def fnExactRatNegRow : OpenClaim := { program := "ytglhddfdjopbdaa", sum := "cef925789c2f4aff4a4bca1d17b138f0d8cea1bff7088f59a739e5b2734aec2f", func := "loop.example/g00810/laws.FnExactRatNeg", spec := "fnExactRatNeg", apart := false }
def FnExactRatNegSaid : Prop := fnExactRatNegRow.holds Try.pinned (OpenSpec.ofChange fnExactRatNegSpec)

/-- ITS FALSE NEIGHBOUR: 'it returns false'. Refute it at one input. -/
def fnExactRatNegWrong : ChangeSpec := { name := "fnExactRatNeg", fn := fun _ => fun
  | [d] => { results := [.lit (.bool false)], args := [d] }
  | _ => none }
def FnExactRatNegWrongFalsely : Prop := fnExactRatNegRow.holds Try.pinned (OpenSpec.ofChange fnExactRatNegWrong)

/-- 'laws.FnExactRatDiv': WHATEVER THE INPUT: true; the input reads as it did. -/
def fnExactRatDivSpec : ChangeSpec := { name := "fnExactRatDiv", fn := fun _ => fun
  | [d1, d2] => { results := [.lit (.bool true)], args := [d1, d2] }
  | _ => none }
def fnExactRatDivRow : OpenClaim := { program := "ytglhddfdjopbdaa", sum := "cef925789c2f4aff4a4bca1d17b138f0d8cea1bff7088f59a739e5b2734aec2f", func := "loop.example/g00810/laws.FnExactRatDiv", spec := "fnExactRatDiv", apart := false }
def FnExactRatDivSaid : Prop := fnExactRatDivRow.holds Try.pinned (OpenSpec.ofChange fnExactRatDivSpec)

/-- ITS FALSE NEIGHBOUR: 'it returns false'. Refute it at one input. -/
def fnExactRatDivWrong : ChangeSpec := { name := "fnExactRatDiv", fn := fun _ => fun
  | [d1, d2] => { results := [.lit (.bool false)], args := [d1, d2] }
  | _ => none }
def FnExactRatDivWrongFalsely : Prop := fnExactRatDivRow.holds Try.pinned (OpenSpec.ofChange fnExactRatDivWrong)

/-- 'laws.FnExactRatMul': WHATEVER THE INPUT: true; the input reads as it did. -/
def fnExactRatMulSpec : ChangeSpec := { name := "fnExactRatMul", fn := fun _ => fun
  | [d1, d2] => { results := [.lit (.bool true)], args := [d1, d2] }
  | _ => none }
def fnExactRatMulRow : OpenClaim := { program := "ytglhddfdjopbdaa", sum := "cef925789c2f4aff4a4bca1d17b138f0d8cea1bff7088f59a739e5b2734aec2f", func := "loop.example/g00810/laws.FnExactRatMul", spec := "fnExactRatMul", apart := false }
def FnExactRatMulSaid : Prop := fnExactRatMulRow.holds Try.pinned (OpenSpec.ofChange fnExactRatMulSpec)

/-- ITS FALSE NEIGHBOUR: 'it returns false'. Refute it at one input. -/
def fnExactRatMulWrong : ChangeSpec := { name := "fnExactRatMul", fn := fun _ => fun
  | [d1, d2] => { results := [.lit (.bool false)], args := [d1, d2] }
  | _ => none }
def FnExactRatMulWrongFalsely : Prop := fnExactRatMulRow.holds Try.pinned (OpenSpec.ofChange fnExactRatMulWrong)

/-- 'laws.FnExactRatAdd': WHATEVER THE INPUT: true; the input reads as it did. -/
def fnExactRatAddSpec : ChangeSpec := { name := "fnExactRatAdd", fn := fun _ => fun
  | [d1, d2] => { results := [.lit (.bool true)], args := [d1, d2] }
  | _ => none }
def fnExactRatAddRow : OpenClaim := { program := "ytglhddfdjopbdaa", sum := "cef925789c2f4aff4a4bca1d17b138f0d8cea1bff7088f59a739e5b2734aec2f", func := "loop.example/g00810/laws.FnExactRatAdd", spec := "fnExactRatAdd", apart := false }
def FnExactRatAddSaid : Prop := fnExactRatAddRow.holds Try.pinned (OpenSpec.ofChange fnExactRatAddSpec)

/-- ITS FALSE NEIGHBOUR: 'it returns false'. Refute it at one input. -/
def fnExactRatAddWrong : ChangeSpec := { name := "fnExactRatAdd", fn := fun _ => fun
  | [d1, d2] => { results := [.lit (.bool false)], args := [d1, d2] }
  | _ => none }
def FnExactRatAddWrongFalsely : Prop := fnExactRatAddRow.holds Try.pinned (OpenSpec.ofChange fnExactRatAddWrong)

/-- 'laws.FnExactRatSub': WHATEVER THE INPUT: true; the input reads as it did. -/
def fnExactRatSubSpec : ChangeSpec := { name := "fnExactRatSub", fn := fun _ => fun
  | [d1, d2] => { results := [.lit (.bool true)], args := [d1, d2] }
  | _ => none }
def fnExactRatSubRow : OpenClaim := { program := "ytglhddfdjopbdaa", sum := "cef925789c2f4aff4a4bca1d17b138f0d8cea1bff7088f59a739e5b2734aec2f", func := "loop.example/g00810/laws.FnExactRatSub", spec := "fnExactRatSub", apart := false }
def FnExactRatSubSaid : Prop := fnExactRatSubRow.holds Try.pinned (OpenSpec.ofChange fnExactRatSubSpec)

/-- ITS FALSE NEIGHBOUR: 'it returns false'. Refute it at one input. -/
def fnExactRatSubWrong : ChangeSpec := { name := "fnExactRatSub", fn := fun _ => fun
  | [d1, d2] => { results := [.lit (.bool false)], args := [d1, d2] }
  | _ => none }
def FnExactRatSubWrongFalsely : Prop := fnExactRatSubRow.holds Try.pinned (OpenSpec.ofChange fnExactRatSubWrong)

/-- 'laws.FnExactRatMax': WHATEVER THE INPUT: true; the input reads as it did. -/
def fnExactRatMaxSpec : ChangeSpec := { name := "fnExactRatMax", fn := fun _ => fun
  | [d1, d2] => { results := [.lit (.bool true)], args := [d1, d2] }
  | _ => none }
def fnExactRatMaxRow : OpenClaim := { program := "ytglhddfdjopbdaa", sum := "cef925789c2f4aff4a4bca1d17b138f0d8cea1bff7088f59a739e5b2734aec2f", func := "loop.example/g00810/laws.FnExactRatMax", spec := "fnExactRatMax", apart := false }
def FnExactRatMaxSaid : Prop := fnExactRatMaxRow.holds Try.pinned (OpenSpec.ofChange fnExactRatMaxSpec)

/-- ITS FALSE NEIGHBOUR: 'it returns false'. Refute it at one input. -/
def fnExactRatMaxWrong : ChangeSpec := { name := "fnExactRatMax", fn := fun _ => fun
  | [d1, d2] => { results := [.lit (.bool false)], args := [d1, d2] }
  | _ => none }
def FnExactRatMaxWrongFalsely : Prop := fnExactRatMaxRow.holds Try.pinned (OpenSpec.ofChange fnExactRatMaxWrong)

/- THE SECOND FORM. 'bulk': how many values and letters a reading holds, each counted each time it is reached (what is shared counts as often as it is met; a slice's spare places count too). A statement '..UptoSaid' is the law's where the arguments, and the package variables that the reading takes, are together of bulk at most 1048576: NARROWER than '..Said'. Prove '..Said' where nothing that the law and all that it calls make is longer than what came in: it says more and counts as full. Else prove '..UptoSaid'. A law counts once. -/
mutual
def uptoBulk {H : Type} : DataW H → Nat
  | .lit (.string bytes) => bytes.length + 1
  | .lit _ => 1
  | .nil => 1
  | .ptr d => uptoBulk d + 1
  | .slice elems spare => uptoBulkAll elems + uptoBulkAll spare + 1
  | .agg parts => uptoBulkAll parts + 1
  | .iface _ d => uptoBulk d + 1
  | .map entries => uptoBulkEntries entries + 1
  | .held _ => 1
def uptoBulkAll {H : Type} : List (DataW H) → Nat
  | [] => 0
  | d :: r => uptoBulk d + uptoBulkAll r
def uptoBulkEntries {H : Type} : List (Lit × DataW H) → Nat
  | [] => 0
  | x :: r => uptoBulkEntry x + uptoBulkEntries r
def uptoBulkEntry {H : Type} : Lit × DataW H → Nat
  | (.string bytes, d) => bytes.length + uptoBulk d + 1
  | (_, d) => uptoBulk d + 1
 end
def uptoSmall : (H : Type) → List (DataW H) → Bool := fun _ ds => decide (uptoBulkAll ds ≤ 1048576)
def OpenSpec.upto (s : _root_.Go.ChangeSpec) : _root_.Go.OpenSpec := { _root_.Go.OpenSpec.ofChange s with cond := some uptoSmall }

/-- 'laws.FnExactBigIntFloorDiv', WHERE WHAT IT READS IS OF BULK AT MOST 1048576: true; the input reads as it did. -/
def fnExactBigIntFloorDivUptoRow : OpenClaim := { program := "ytglhddfdjopbdaa", sum := "cef925789c2f4aff4a4bca1d17b138f0d8cea1bff7088f59a739e5b2734aec2f", func := "loop.example/g00810/laws.FnExactBigIntFloorDiv", spec := "fnExactBigIntFloorDiv", apart := false, narrowed := true }
def FnExactBigIntFloorDivUptoSaid : Prop := fnExactBigIntFloorDivUptoRow.holds Try.pinned (OpenSpec.upto fnExactBigIntFloorDivSpec)

/-- 'laws.FnExactRatOk', WHERE WHAT IT READS IS OF BULK AT MOST 1048576: true; the input reads as it did. -/
def fnExactRatOkUptoRow : OpenClaim := { program := "ytglhddfdjopbdaa", sum := "cef925789c2f4aff4a4bca1d17b138f0d8cea1bff7088f59a739e5b2734aec2f", func := "loop.example/g00810/laws.FnExactRatOk", spec := "fnExactRatOk", apart := false, narrowed := true }
def FnExactRatOkUptoSaid : Prop := fnExactRatOkUptoRow.holds Try.pinned (OpenSpec.upto fnExactRatOkSpec)

/-- 'laws.FnExactRatSign', WHERE WHAT IT READS IS OF BULK AT MOST 1048576: true; the input reads as it did. -/
def fnExactRatSignUptoRow : OpenClaim := { program := "ytglhddfdjopbdaa", sum := "cef925789c2f4aff4a4bca1d17b138f0d8cea1bff7088f59a739e5b2734aec2f", func := "loop.example/g00810/laws.FnExactRatSign", spec := "fnExactRatSign", apart := false, narrowed := true }
def FnExactRatSignUptoSaid : Prop := fnExactRatSignUptoRow.holds Try.pinned (OpenSpec.upto fnExactRatSignSpec)

/-- 'laws.FnExactRatOf', WHERE WHAT IT READS IS OF BULK AT MOST 1048576: true; the input reads as it did. -/
def fnExactRatOfUptoRow : OpenClaim := { program := "ytglhddfdjopbdaa", sum := "cef925789c2f4aff4a4bca1d17b138f0d8cea1bff7088f59a739e5b2734aec2f", func := "loop.example/g00810/laws.FnExactRatOf", spec := "fnExactRatOf", apart := false, narrowed := true }
def FnExactRatOfUptoSaid : Prop := fnExactRatOfUptoRow.holds Try.pinned (OpenSpec.upto fnExactRatOfSpec)

/-- 'laws.FnExactRatCmp', WHERE WHAT IT READS IS OF BULK AT MOST 1048576: true; the input reads as it did. -/
def fnExactRatCmpUptoRow : OpenClaim := { program := "ytglhddfdjopbdaa", sum := "cef925789c2f4aff4a4bca1d17b138f0d8cea1bff7088f59a739e5b2734aec2f", func := "loop.example/g00810/laws.FnExactRatCmp", spec := "fnExactRatCmp", apart := false, narrowed := true }
def FnExactRatCmpUptoSaid : Prop := fnExactRatCmpUptoRow.holds Try.pinned (OpenSpec.upto fnExactRatCmpSpec)

/-- 'laws.FnExactRatMake', WHERE WHAT IT READS IS OF BULK AT MOST 1048576: true; the input reads as it did. -/
def fnExactRatMakeUptoRow : OpenClaim := { program := "ytglhddfdjopbdaa", sum := "cef925789c2f4aff4a4bca1d17b138f0d8cea1bff7088f59a739e5b2734aec2f", func := "loop.example/g00810/laws.FnExactRatMake", spec := "fnExactRatMake", apart := false, narrowed := true }
def FnExactRatMakeUptoSaid : Prop := fnExactRatMakeUptoRow.holds Try.pinned (OpenSpec.upto fnExactRatMakeSpec)

/-- 'laws.FnExactRatNeg', WHERE WHAT IT READS IS OF BULK AT MOST 1048576: true; the input reads as it did. -/
def fnExactRatNegUptoRow : OpenClaim := { program := "ytglhddfdjopbdaa", sum := "cef925789c2f4aff4a4bca1d17b138f0d8cea1bff7088f59a739e5b2734aec2f", func := "loop.example/g00810/laws.FnExactRatNeg", spec := "fnExactRatNeg", apart := false, narrowed := true }
def FnExactRatNegUptoSaid : Prop := fnExactRatNegUptoRow.holds Try.pinned (OpenSpec.upto fnExactRatNegSpec)

/-- 'laws.FnExactRatDiv', WHERE WHAT IT READS IS OF BULK AT MOST 1048576: true; the input reads as it did. -/
def fnExactRatDivUptoRow : OpenClaim := { program := "ytglhddfdjopbdaa", sum := "cef925789c2f4aff4a4bca1d17b138f0d8cea1bff7088f59a739e5b2734aec2f", func := "loop.example/g00810/laws.FnExactRatDiv", spec := "fnExactRatDiv", apart := false, narrowed := true }
def FnExactRatDivUptoSaid : Prop := fnExactRatDivUptoRow.holds Try.pinned (OpenSpec.upto fnExactRatDivSpec)

/-- 'laws.FnExactRatMul', WHERE WHAT IT READS IS OF BULK AT MOST 1048576: true; the input reads as it did. -/
def fnExactRatMulUptoRow : OpenClaim := { program := "ytglhddfdjopbdaa", sum := "cef925789c2f4aff4a4bca1d17b138f0d8cea1bff7088f59a739e5b2734aec2f", func := "loop.example/g00810/laws.FnExactRatMul", spec := "fnExactRatMul", apart := false, narrowed := true }
def FnExactRatMulUptoSaid : Prop := fnExactRatMulUptoRow.holds Try.pinned (OpenSpec.upto fnExactRatMulSpec)

/-- 'laws.FnExactRatAdd', WHERE WHAT IT READS IS OF BULK AT MOST 1048576: true; the input reads as it did. -/
def fnExactRatAddUptoRow : OpenClaim := { program := "ytglhddfdjopbdaa", sum := "cef925789c2f4aff4a4bca1d17b138f0d8cea1bff7088f59a739e5b2734aec2f", func := "loop.example/g00810/laws.FnExactRatAdd", spec := "fnExactRatAdd", apart := false, narrowed := true }
def FnExactRatAddUptoSaid : Prop := fnExactRatAddUptoRow.holds Try.pinned (OpenSpec.upto fnExactRatAddSpec)

/-- 'laws.FnExactRatSub', WHERE WHAT IT READS IS OF BULK AT MOST 1048576: true; the input reads as it did. -/
def fnExactRatSubUptoRow : OpenClaim := { program := "ytglhddfdjopbdaa", sum := "cef925789c2f4aff4a4bca1d17b138f0d8cea1bff7088f59a739e5b2734aec2f", func := "loop.example/g00810/laws.FnExactRatSub", spec := "fnExactRatSub", apart := false, narrowed := true }
def FnExactRatSubUptoSaid : Prop := fnExactRatSubUptoRow.holds Try.pinned (OpenSpec.upto fnExactRatSubSpec)

/-- 'laws.FnExactRatMax', WHERE WHAT IT READS IS OF BULK AT MOST 1048576: true; the input reads as it did. -/
def fnExactRatMaxUptoRow : OpenClaim := { program := "ytglhddfdjopbdaa", sum := "cef925789c2f4aff4a4bca1d17b138f0d8cea1bff7088f59a739e5b2734aec2f", func := "loop.example/g00810/laws.FnExactRatMax", spec := "fnExactRatMax", apart := false, narrowed := true }
def FnExactRatMaxUptoSaid : Prop := fnExactRatMaxUptoRow.holds Try.pinned (OpenSpec.upto fnExactRatMaxSpec)

end Rows
end Go.Proofs.Ytglhddfdjopbdaa
