/-
  No cell of these rows narrows 'for every input' (looked for: loops, veiled, ifaces, maps, wideKeys, modest, calm, conditions, laid).
  DERIVED. THE GIVEN ROWS OF THIS SEAT. 12 by the template 'for every input the law returns true; each argument reads behind the call as it read before'; 0 by the template 'total and deterministic' (their statements: YthpfmeipppncmaaTotals.lean).
  GIVEN WITH THE SEED: the statements are not yours to turn. If you find one false, say at which input.
  Laid BY PROGRAM, IN A SANDBOX (cutbox-rows.mjs): the forced cells as the released guide's own fill.sh prints them over the translation bf235080e3ceb502… (all of the seat's roots in one cut). By AI agents, Wed Nov 11 2026. No macro, syntax, notation, axiom, sorry.
-/
import Derived.Test.YthpfmeipppncmaaChecked
import GoSem.Claim
import GoSem.ClaimJoined
import GoSem.ClaimMapViews
import Derived.JoinedTies
import Derived.KernelRfl
namespace Go.Proofs.Ythpfmeipppncmaa
/- THE CELL 'sum', in the pinned program and in every row, IS THE sha256 OF THE DUMP (.gsa) THAT YthpfmeipppncmaaProg.lean LOADS. Nothing in Lean hashes anything: it is a label: what it is worth is what the hold of that sum in a sandbox is worth. -/
noncomputable def Try.pinned : Pinned := { name := "ythpfmeipppncmaa", sum := "bf235080e3ceb502a78e4438dd0e6f7fb34db4af62518562638fc6eb4f5f93a6", checked := Try.checked }
namespace Rows
def none {H : Type} : Left H := { results := [], args := [] }

/-- 'laws.FnExactNatAdd': WHATEVER THE INPUT: true; the input reads as it did. -/
def fnExactNatAddSpec : ChangeSpec := { name := "fnExactNatAdd", fn := fun _ => fun
  | [d1, d2] => { results := [.lit (.bool true)], args := [d1, d2] }
  | _ => none }
def fnExactNatAddRow : OpenClaim := { program := "ythpfmeipppncmaa", sum := "bf235080e3ceb502a78e4438dd0e6f7fb34db4af62518562638fc6eb4f5f93a6", func := "loop.example/g00810/laws.FnExactNatAdd", spec := "fnExactNatAdd", apart := false }
def FnExactNatAddSaid : Prop := fnExactNatAddRow.holds Try.pinned (OpenSpec.ofChange fnExactNatAddSpec)

/-- ITS FALSE NEIGHBOUR: 'it returns false'. Refute it at one input. -/
def fnExactNatAddWrong : ChangeSpec := { name := "fnExactNatAdd", fn := fun _ => fun
  | [d1, d2] => { results := [.lit (.bool false)], args := [d1, d2] }
  | _ => none }
def FnExactNatAddWrongFalsely : Prop := fnExactNatAddRow.holds Try.pinned (OpenSpec.ofChange fnExactNatAddWrong)

/-- 'laws.FnExactNatSub': WHATEVER THE INPUT: true; the input reads as it did. -/
def fnExactNatSubSpec : ChangeSpec := { name := "fnExactNatSub", fn := fun _ => fun
  | [d1, d2] => { results := [.lit (.bool true)], args := [d1, d2] }
  | _ => none }
def fnExactNatSubRow : OpenClaim := { program := "ythpfmeipppncmaa", sum := "bf235080e3ceb502a78e4438dd0e6f7fb34db4af62518562638fc6eb4f5f93a6", func := "loop.example/g00810/laws.FnExactNatSub", spec := "fnExactNatSub", apart := false }
def FnExactNatSubSaid : Prop := fnExactNatSubRow.holds Try.pinned (OpenSpec.ofChange fnExactNatSubSpec)

/-- ITS FALSE NEIGHBOUR: 'it returns false'. Refute it at one input. -/
def fnExactNatSubWrong : ChangeSpec := { name := "fnExactNatSub", fn := fun _ => fun
  | [d1, d2] => { results := [.lit (.bool false)], args := [d1, d2] }
  | _ => none }
def FnExactNatSubWrongFalsely : Prop := fnExactNatSubRow.holds Try.pinned (OpenSpec.ofChange fnExactNatSubWrong)

/-- 'laws.FnExactNatMul': WHATEVER THE INPUT: true; the input reads as it did. -/
def fnExactNatMulSpec : ChangeSpec := { name := "fnExactNatMul", fn := fun _ => fun
  | [d1, d2] => { results := [.lit (.bool true)], args := [d1, d2] }
  | _ => none }
def fnExactNatMulRow : OpenClaim := { program := "ythpfmeipppncmaa", sum := "bf235080e3ceb502a78e4438dd0e6f7fb34db4af62518562638fc6eb4f5f93a6", func := "loop.example/g00810/laws.FnExactNatMul", spec := "fnExactNatMul", apart := false }
def FnExactNatMulSaid : Prop := fnExactNatMulRow.holds Try.pinned (OpenSpec.ofChange fnExactNatMulSpec)

/-- ITS FALSE NEIGHBOUR: 'it returns false'. Refute it at one input. -/
def fnExactNatMulWrong : ChangeSpec := { name := "fnExactNatMul", fn := fun _ => fun
  | [d1, d2] => { results := [.lit (.bool false)], args := [d1, d2] }
  | _ => none }
def FnExactNatMulWrongFalsely : Prop := fnExactNatMulRow.holds Try.pinned (OpenSpec.ofChange fnExactNatMulWrong)

/-- 'laws.FnExactNatDiv': WHATEVER THE INPUT: true; the input reads as it did. -/
def fnExactNatDivSpec : ChangeSpec := { name := "fnExactNatDiv", fn := fun _ => fun
  | [d1, d2] => { results := [.lit (.bool true)], args := [d1, d2] }
  | _ => none }
def fnExactNatDivRow : OpenClaim := { program := "ythpfmeipppncmaa", sum := "bf235080e3ceb502a78e4438dd0e6f7fb34db4af62518562638fc6eb4f5f93a6", func := "loop.example/g00810/laws.FnExactNatDiv", spec := "fnExactNatDiv", apart := false }
def FnExactNatDivSaid : Prop := fnExactNatDivRow.holds Try.pinned (OpenSpec.ofChange fnExactNatDivSpec)

/-- ITS FALSE NEIGHBOUR: 'it returns false'. Refute it at one input. -/
def fnExactNatDivWrong : ChangeSpec := { name := "fnExactNatDiv", fn := fun _ => fun
  | [d1, d2] => { results := [.lit (.bool false)], args := [d1, d2] }
  | _ => none }
def FnExactNatDivWrongFalsely : Prop := fnExactNatDivRow.holds Try.pinned (OpenSpec.ofChange fnExactNatDivWrong)

/-- 'laws.FnExactNatGcd': WHATEVER THE INPUT: true; the input reads as it did. -/
def fnExactNatGcdSpec : ChangeSpec := { name := "fnExactNatGcd", fn := fun _ => fun
  | [d1, d2] => { results := [.lit (.bool true)], args := [d1, d2] }
  | _ => none }
def fnExactNatGcdRow : OpenClaim := { program := "ythpfmeipppncmaa", sum := "bf235080e3ceb502a78e4438dd0e6f7fb34db4af62518562638fc6eb4f5f93a6", func := "loop.example/g00810/laws.FnExactNatGcd", spec := "fnExactNatGcd", apart := false }
def FnExactNatGcdSaid : Prop := fnExactNatGcdRow.holds Try.pinned (OpenSpec.ofChange fnExactNatGcdSpec)

/-- ITS FALSE NEIGHBOUR: 'it returns false'. Refute it at one input. -/
def fnExactNatGcdWrong : ChangeSpec := { name := "fnExactNatGcd", fn := fun _ => fun
  | [d1, d2] => { results := [.lit (.bool false)], args := [d1, d2] }
  | _ => none }
def FnExactNatGcdWrongFalsely : Prop := fnExactNatGcdRow.holds Try.pinned (OpenSpec.ofChange fnExactNatGcdWrong)

/-- 'laws.FnExactRatFromInt': WHATEVER THE INPUT: true; the input reads as it did. -/
def fnExactRatFromIntSpec : ChangeSpec := { name := "fnExactRatFromInt", fn := fun _ => fun
  | [d] => { results := [.lit (.bool true)], args := [d] }
  | _ => none }
def fnExactRatFromIntRow : OpenClaim := { program := "ythpfmeipppncmaa", sum := "bf235080e3ceb502a78e4438dd0e6f7fb34db4af62518562638fc6eb4f5f93a6", func := "loop.example/g00810/laws.FnExactRatFromInt", spec := "fnExactRatFromInt", apart := false }
def FnExactRatFromIntSaid : Prop := fnExactRatFromIntRow.holds Try.pinned (OpenSpec.ofChange fnExactRatFromIntSpec)

/-- ITS FALSE NEIGHBOUR: 'it returns false'. Refute it at one input. -/
def fnExactRatFromIntWrong : ChangeSpec := { name := "fnExactRatFromInt", fn := fun _ => fun
  | [d] => { results := [.lit (.bool false)], args := [d] }
  | _ => none }
def FnExactRatFromIntWrongFalsely : Prop := fnExactRatFromIntRow.holds Try.pinned (OpenSpec.ofChange fnExactRatFromIntWrong)

/-- 'laws.FnExactBigIntNeg': WHATEVER THE INPUT: true; the input reads as it did. -/
def fnExactBigIntNegSpec : ChangeSpec := { name := "fnExactBigIntNeg", fn := fun _ => fun
  | [d] => { results := [.lit (.bool true)], args := [d] }
  | _ => none }
def fnExactBigIntNegRow : OpenClaim := { program := "ythpfmeipppncmaa", sum := "bf235080e3ceb502a78e4438dd0e6f7fb34db4af62518562638fc6eb4f5f93a6", func := "loop.example/g00810/laws.FnExactBigIntNeg", spec := "fnExactBigIntNeg", apart := false }
def FnExactBigIntNegSaid : Prop := fnExactBigIntNegRow.holds Try.pinned (OpenSpec.ofChange fnExactBigIntNegSpec)

/-- ITS FALSE NEIGHBOUR: 'it returns false'. Refute it at one input. -/
def fnExactBigIntNegWrong : ChangeSpec := { name := "fnExactBigIntNeg", fn := fun _ => fun
  | [d] => { results := [.lit (.bool false)], args := [d] }
  | _ => none }
def FnExactBigIntNegWrongFalsely : Prop := fnExactBigIntNegRow.holds Try.pinned (OpenSpec.ofChange fnExactBigIntNegWrong)

/-- 'laws.FnExactBigIntCmp': WHATEVER THE INPUT: true; the input reads as it did. -/
def fnExactBigIntCmpSpec : ChangeSpec := { name := "fnExactBigIntCmp", fn := fun _ => fun
  | [d1, d2] => { results := [.lit (.bool true)], args := [d1, d2] }
  | _ => none }
def fnExactBigIntCmpRow : OpenClaim := { program := "ythpfmeipppncmaa", sum := "bf235080e3ceb502a78e4438dd0e6f7fb34db4af62518562638fc6eb4f5f93a6", func := "loop.example/g00810/laws.FnExactBigIntCmp", spec := "fnExactBigIntCmp", apart := false }
def FnExactBigIntCmpSaid : Prop := fnExactBigIntCmpRow.holds Try.pinned (OpenSpec.ofChange fnExactBigIntCmpSpec)

/-- ITS FALSE NEIGHBOUR: 'it returns false'. Refute it at one input. -/
def fnExactBigIntCmpWrong : ChangeSpec := { name := "fnExactBigIntCmp", fn := fun _ => fun
  | [d1, d2] => { results := [.lit (.bool false)], args := [d1, d2] }
  | _ => none }
def FnExactBigIntCmpWrongFalsely : Prop := fnExactBigIntCmpRow.holds Try.pinned (OpenSpec.ofChange fnExactBigIntCmpWrong)

/-- 'laws.FnExactBigIntToInt': WHATEVER THE INPUT: true; the input reads as it did. -/
def fnExactBigIntToIntSpec : ChangeSpec := { name := "fnExactBigIntToInt", fn := fun _ => fun
  | [d] => { results := [.lit (.bool true)], args := [d] }
  | _ => none }
def fnExactBigIntToIntRow : OpenClaim := { program := "ythpfmeipppncmaa", sum := "bf235080e3ceb502a78e4438dd0e6f7fb34db4af62518562638fc6eb4f5f93a6", func := "loop.example/g00810/laws.FnExactBigIntToInt", spec := "fnExactBigIntToInt", apart := false }
def FnExactBigIntToIntSaid : Prop := fnExactBigIntToIntRow.holds Try.pinned (OpenSpec.ofChange fnExactBigIntToIntSpec)

/-- ITS FALSE NEIGHBOUR: 'it returns false'. Refute it at one input. -/
def fnExactBigIntToIntWrong : ChangeSpec := { name := "fnExactBigIntToInt", fn := fun _ => fun
  | [d] => { results := [.lit (.bool false)], args := [d] }
  | _ => none }
def FnExactBigIntToIntWrongFalsely : Prop := fnExactBigIntToIntRow.holds Try.pinned (OpenSpec.ofChange fnExactBigIntToIntWrong)

/-- 'laws.FnExactBigIntMul': WHATEVER THE INPUT: true; the input reads as it did. -/
def fnExactBigIntMulSpec : ChangeSpec := { name := "fnExactBigIntMul", fn := fun _ => fun
  | [d1, d2] => { results := [.lit (.bool true)], args := [d1, d2] }
  | _ => none }
def fnExactBigIntMulRow : OpenClaim := { program := "ythpfmeipppncmaa", sum := "bf235080e3ceb502a78e4438dd0e6f7fb34db4af62518562638fc6eb4f5f93a6", func := "loop.example/g00810/laws.FnExactBigIntMul", spec := "fnExactBigIntMul", apart := false }
def FnExactBigIntMulSaid : Prop := fnExactBigIntMulRow.holds Try.pinned (OpenSpec.ofChange fnExactBigIntMulSpec)

/-- ITS FALSE NEIGHBOUR: 'it returns false'. Refute it at one input. -/
def fnExactBigIntMulWrong : ChangeSpec := { name := "fnExactBigIntMul", fn := fun _ => fun
  | [d1, d2] => { results := [.lit (.bool false)], args := [d1, d2] }
  | _ => none }
def FnExactBigIntMulWrongFalsely : Prop := fnExactBigIntMulRow.holds Try.pinned (OpenSpec.ofChange fnExactBigIntMulWrong)

/-- 'laws.FnExactBigIntAdd': WHATEVER THE INPUT: true; the input reads as it did. -/
def fnExactBigIntAddSpec : ChangeSpec := { name := "fnExactBigIntAdd", fn := fun _ => fun
  | [d1, d2] => { results := [.lit (.bool true)], args := [d1, d2] }
  | _ => none }
def fnExactBigIntAddRow : OpenClaim := { program := "ythpfmeipppncmaa", sum := "bf235080e3ceb502a78e4438dd0e6f7fb34db4af62518562638fc6eb4f5f93a6", func := "loop.example/g00810/laws.FnExactBigIntAdd", spec := "fnExactBigIntAdd", apart := false }
def FnExactBigIntAddSaid : Prop := fnExactBigIntAddRow.holds Try.pinned (OpenSpec.ofChange fnExactBigIntAddSpec)

/-- ITS FALSE NEIGHBOUR: 'it returns false'. Refute it at one input. -/
def fnExactBigIntAddWrong : ChangeSpec := { name := "fnExactBigIntAdd", fn := fun _ => fun
  | [d1, d2] => { results := [.lit (.bool false)], args := [d1, d2] }
  | _ => none }
def FnExactBigIntAddWrongFalsely : Prop := fnExactBigIntAddRow.holds Try.pinned (OpenSpec.ofChange fnExactBigIntAddWrong)

/-- 'laws.FnExactBigIntSub': WHATEVER THE INPUT: true; the input reads as it did. -/
def fnExactBigIntSubSpec : ChangeSpec := { name := "fnExactBigIntSub", fn := fun _ => fun
  | [d1, d2] => { results := [.lit (.bool true)], args := [d1, d2] }
  | _ => none }
def fnExactBigIntSubRow : OpenClaim := { program := "ythpfmeipppncmaa", sum := "bf235080e3ceb502a78e4438dd0e6f7fb34db4af62518562638fc6eb4f5f93a6", func := "loop.example/g00810/laws.FnExactBigIntSub", spec := "fnExactBigIntSub", apart := false }
def FnExactBigIntSubSaid : Prop := fnExactBigIntSubRow.holds Try.pinned (OpenSpec.ofChange fnExactBigIntSubSpec)

/-- ITS FALSE NEIGHBOUR: 'it returns false'. Refute it at one input. -/
def fnExactBigIntSubWrong : ChangeSpec := { name := "fnExactBigIntSub", fn := fun _ => fun
  | [d1, d2] => { results := [.lit (.bool false)], args := [d1, d2] }
  | _ => none }
def FnExactBigIntSubWrongFalsely : Prop := fnExactBigIntSubRow.holds Try.pinned (OpenSpec.ofChange fnExactBigIntSubWrong)

/- THE SECOND FORM. 'bulk': how many values and letters a reading holds, each counted each time it is reached (what is shared counts as often as it is met; a slice's spare places count too). A statement '..UptoSaid' is the law's where the arguments, and the package variables that the reading takes, are together of bulk at most 1048576: NARROWER than '..Said'. Prove '..Said' where nothing that the law and all that it calls make is longer than what came in: it says more and counts as full. Else prove '..UptoSaid'. A law counts once. -/
mutual
def uptoBulk {H : Type} : DataW H → Nat
  | .lit (.string bytes) => bytes.length + 1
  | .lit _ => 1
  | .nil => 1
  | .ptr d => uptoBulk d + 1
  | .slice elems spare => uptoBulkAll elems + uptoBulkAll spare + 1
  | .agg parts => uptoBulkAll parts + 1
  | .iface _ d => uptoBulk d + 1
  | .map entries => uptoBulkEntries entries + 1
  | .held _ => 1
def uptoBulkAll {H : Type} : List (DataW H) → Nat
  | [] => 0
  | d :: r => uptoBulk d + uptoBulkAll r
def uptoBulkEntries {H : Type} : List (Lit × DataW H) → Nat
  | [] => 0
  | x :: r => uptoBulkEntry x + uptoBulkEntries r
def uptoBulkEntry {H : Type} : Lit × DataW H → Nat
  | (.string bytes, d) => bytes.length + uptoBulk d + 1
  | (_, d) => uptoBulk d + 1
 end
def uptoSmall : (H : Type) → List (DataW H) → Bool := fun _ ds => decide (uptoBulkAll ds ≤ 1048576)
def OpenSpec.upto (s : _root_.Go.ChangeSpec) : _root_.Go.OpenSpec := { _root_.Go.OpenSpec.ofChange s with cond := some uptoSmall }

/-- 'laws.FnExactNatAdd', WHERE WHAT IT READS IS OF BULK AT MOST 1048576: true; the input reads as it did. -/
def fnExactNatAddUptoRow : OpenClaim := { program := "ythpfmeipppncmaa", sum := "bf235080e3ceb502a78e4438dd0e6f7fb34db4af62518562638fc6eb4f5f93a6", func := "loop.example/g00810/laws.FnExactNatAdd", spec := "fnExactNatAdd", apart := false, narrowed := true }
def FnExactNatAddUptoSaid : Prop := fnExactNatAddUptoRow.holds Try.pinned (OpenSpec.upto fnExactNatAddSpec)

/-- 'laws.FnExactNatSub', WHERE WHAT IT READS IS OF BULK AT MOST 1048576: true; the input reads as it did. -/
def fnExactNatSubUptoRow : OpenClaim := { program := "ythpfmeipppncmaa", sum := "bf235080e3ceb502a78e4438dd0e6f7fb34db4af62518562638fc6eb4f5f93a6", func := "loop.example/g00810/laws.FnExactNatSub", spec := "fnExactNatSub", apart := false, narrowed := true }
def FnExactNatSubUptoSaid : Prop := fnExactNatSubUptoRow.holds Try.pinned (OpenSpec.upto fnExactNatSubSpec)

/-- 'laws.FnExactNatMul', WHERE WHAT IT READS IS OF BULK AT MOST 1048576: true; the input reads as it did. -/
def fnExactNatMulUptoRow : OpenClaim := { program := "ythpfmeipppncmaa", sum := "bf235080e3ceb502a78e4438dd0e6f7fb34db4af62518562638fc6eb4f5f93a6", func := "loop.example/g00810/laws.FnExactNatMul", spec := "fnExactNatMul", apart := false, narrowed := true }
def FnExactNatMulUptoSaid : Prop := fnExactNatMulUptoRow.holds Try.pinned (OpenSpec.upto fnExactNatMulSpec)

/-- 'laws.FnExactNatDiv', WHERE WHAT IT READS IS OF BULK AT MOST 1048576: true; the input reads as it did. -/
def fnExactNatDivUptoRow : OpenClaim := { program := "ythpfmeipppncmaa", sum := "bf235080e3ceb502a78e4438dd0e6f7fb34db4af62518562638fc6eb4f5f93a6", func := "loop.example/g00810/laws.FnExactNatDiv", spec := "fnExactNatDiv", apart := false, narrowed := true }
def FnExactNatDivUptoSaid : Prop := fnExactNatDivUptoRow.holds Try.pinned (OpenSpec.upto fnExactNatDivSpec)

/-- 'laws.FnExactNatGcd', WHERE WHAT IT READS IS OF BULK AT MOST 1048576: true; the input reads as it did. -/
def fnExactNatGcdUptoRow : OpenClaim := { program := "ythpfmeipppncmaa", sum := "bf235080e3ceb502a78e4438dd0e6f7fb34db4af62518562638fc6eb4f5f93a6", func := "loop.example/g00810/laws.FnExactNatGcd", spec := "fnExactNatGcd", apart := false, narrowed := true }
def FnExactNatGcdUptoSaid : Prop := fnExactNatGcdUptoRow.holds Try.pinned (OpenSpec.upto fnExactNatGcdSpec)

/-- 'laws.FnExactRatFromInt', WHERE WHAT IT READS IS OF BULK AT MOST 1048576: true; the input reads as it did. -/
def fnExactRatFromIntUptoRow : OpenClaim := { program := "ythpfmeipppncmaa", sum := "bf235080e3ceb502a78e4438dd0e6f7fb34db4af62518562638fc6eb4f5f93a6", func := "loop.example/g00810/laws.FnExactRatFromInt", spec := "fnExactRatFromInt", apart := false, narrowed := true }
def FnExactRatFromIntUptoSaid : Prop := fnExactRatFromIntUptoRow.holds Try.pinned (OpenSpec.upto fnExactRatFromIntSpec)

/-- 'laws.FnExactBigIntNeg', WHERE WHAT IT READS IS OF BULK AT MOST 1048576: true; the input reads as it did. -/
def fnExactBigIntNegUptoRow : OpenClaim := { program := "ythpfmeipppncmaa", sum := "bf235080e3ceb502a78e4438dd0e6f7fb34db4af62518562638fc6eb4f5f93a6", func := "loop.example/g00810/laws.FnExactBigIntNeg", spec := "fnExactBigIntNeg", apart := false, narrowed := true }
def FnExactBigIntNegUptoSaid : Prop := fnExactBigIntNegUptoRow.holds Try.pinned (OpenSpec.upto fnExactBigIntNegSpec)

/-- 'laws.FnExactBigIntCmp', WHERE WHAT IT READS IS OF BULK AT MOST 1048576: true; the input reads as it did. -/
def fnExactBigIntCmpUptoRow : OpenClaim := { program := "ythpfmeipppncmaa", sum := "bf235080e3ceb502a78e4438dd0e6f7fb34db4af62518562638fc6eb4f5f93a6", func := "loop.example/g00810/laws.FnExactBigIntCmp", spec := "fnExactBigIntCmp", apart := false, narrowed := true }
def FnExactBigIntCmpUptoSaid : Prop := fnExactBigIntCmpUptoRow.holds Try.pinned (OpenSpec.upto fnExactBigIntCmpSpec)

/-- 'laws.FnExactBigIntToInt', WHERE WHAT IT READS IS OF BULK AT MOST 1048576: true; the input reads as it did. -/
def fnExactBigIntToIntUptoRow : OpenClaim := { program := "ythpfmeipppncmaa", sum := "bf235080e3ceb502a78e4438dd0e6f7fb34db4af62518562638fc6eb4f5f93a6", func := "loop.example/g00810/laws.FnExactBigIntToInt", spec := "fnExactBigIntToInt", apart := false, narrowed := true }
def FnExactBigIntToIntUptoSaid : Prop := fnExactBigIntToIntUptoRow.holds Try.pinned (OpenSpec.upto fnExactBigIntToIntSpec)

/-- 'laws.FnExactBigIntMul', WHERE WHAT IT READS IS OF BULK AT MOST 1048576: true; the input reads as it did. -/
def fnExactBigIntMulUptoRow : OpenClaim := { program := "ythpfmeipppncmaa", sum := "bf235080e3ceb502a78e4438dd0e6f7fb34db4af62518562638fc6eb4f5f93a6", func := "loop.example/g00810/laws.FnExactBigIntMul", spec := "fnExactBigIntMul", apart := false, narrowed := true }
def FnExactBigIntMulUptoSaid : Prop := fnExactBigIntMulUptoRow.holds Try.pinned (OpenSpec.upto fnExactBigIntMulSpec)

/-- 'laws.FnExactBigIntAdd', WHERE WHAT IT READS IS OF BULK AT MOST 1048576: true; the input reads as it did. -/
def fnExactBigIntAddUptoRow : OpenClaim := { program := "ythpfmeipppncmaa", sum := "bf235080e3ceb502a78e4438dd0e6f7fb34db4af62518562638fc6eb4f5f93a6", func := "loop.example/g00810/laws.FnExactBigIntAdd", spec := "fnExactBigIntAdd", apart := false, narrowed := true }
def FnExactBigIntAddUptoSaid : Prop := fnExactBigIntAddUptoRow.holds Try.pinned (OpenSpec.upto fnExactBigIntAddSpec)

/-- 'laws.FnExactBigIntSub', WHERE WHAT IT READS IS OF BULK AT MOST 1048576: true; the input reads as it did. -/
def fnExactBigIntSubUptoRow : OpenClaim := { program := "ythpfmeipppncmaa", sum := "bf235080e3ceb502a78e4438dd0e6f7fb34db4af62518562638fc6eb4f5f93a6", func := "loop.example/g00810/laws.FnExactBigIntSub", spec := "fnExactBigIntSub", apart := false, narrowed := true }
def FnExactBigIntSubUptoSaid : Prop := fnExactBigIntSubUptoRow.holds Try.pinned (OpenSpec.upto fnExactBigIntSubSpec)

end Rows
end Go.Proofs.Ythpfmeipppncmaa
