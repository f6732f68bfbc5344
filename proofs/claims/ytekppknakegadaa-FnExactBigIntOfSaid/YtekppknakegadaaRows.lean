/-
  No cell of these rows narrows 'for every input' (looked for: loops, veiled, ifaces, maps, wideKeys, modest, calm, conditions, laid).
  DERIVED. THE GIVEN ROWS OF THIS SEAT. 12 by the template 'for every input the law returns true; each argument reads behind the call as it read before'; 0 by the template 'total and deterministic' (their statements: YtekppknakegadaaTotals.lean).
  GIVEN WITH THE SEED: the statements are not yours to turn. If you find one false, say at which input.
  Laid BY PROGRAM, IN A SANDBOX (cutbox-rows.mjs): the forced cells as the released guide's own fill.sh prints them over the translation ce3e157196642faa… (all of the seat's roots in one cut). By AI agents, Wed Nov 11 2026. No macro, syntax, notation, axiom, sorry.
-/
import Derived.Test.YtekppknakegadaaChecked
import GoSem.Claim
import GoSem.ClaimJoined
import GoSem.ClaimMapViews
import Derived.JoinedTies
import Derived.KernelRfl
namespace Go.Proofs.Ytekppknakegadaa
/- THE CELL 'sum', in the pinned program and in every row, IS THE sha256 OF THE DUMP (.gsa) THAT YtekppknakegadaaProg.lean LOADS. Nothing in Lean hashes anything: it is a label: what it is worth is what the hold of that sum in a sandbox is worth. -/
noncomputable def Try.pinned : Pinned := { name := "ytekppknakegadaa", sum := "ce3e157196642faa96a65c13a2f91e08112a9ccd7f84f4ecba9ec7403046d0d2", checked := Try.checked }
namespace Rows
def none {H : Type} : Left H := { results := [], args := [] }

/-- 'laws.FnExactInverse': WHATEVER THE INPUT: true; the input reads as it did. -/
def fnExactInverseSpec : ChangeSpec := { name := "fnExactInverse", fn := fun _ => fun
  | [d] => { results := [.lit (.bool true)], args := [d] }
  | _ => none }
def fnExactInverseRow : OpenClaim := { program := "ytekppknakegadaa", sum := "ce3e157196642faa96a65c13a2f91e08112a9ccd7f84f4ecba9ec7403046d0d2", func := "loop.example/g00810/laws.FnExactInverse", spec := "fnExactInverse", apart := false }
def FnExactInverseSaid : Prop := fnExactInverseRow.holds Try.pinned (OpenSpec.ofChange fnExactInverseSpec)

/-- ITS FALSE NEIGHBOUR: 'it returns false'. Refute it at one input. -/
def fnExactInverseWrong : ChangeSpec := { name := "fnExactInverse", fn := fun _ => fun
  | [d] => { results := [.lit (.bool false)], args := [d] }
  | _ => none }
def FnExactInverseWrongFalsely : Prop := fnExactInverseRow.holds Try.pinned (OpenSpec.ofChange fnExactInverseWrong)

/-- 'laws.FnExactCompose': WHATEVER THE INPUT: true; the input reads as it did. -/
def fnExactComposeSpec : ChangeSpec := { name := "fnExactCompose", fn := fun _ => fun
  | [d1, d2] => { results := [.lit (.bool true)], args := [d1, d2] }
  | _ => none }
def fnExactComposeRow : OpenClaim := { program := "ytekppknakegadaa", sum := "ce3e157196642faa96a65c13a2f91e08112a9ccd7f84f4ecba9ec7403046d0d2", func := "loop.example/g00810/laws.FnExactCompose", spec := "fnExactCompose", apart := false }
def FnExactComposeSaid : Prop := fnExactComposeRow.holds Try.pinned (OpenSpec.ofChange fnExactComposeSpec)

/-- ITS FALSE NEIGHBOUR: 'it returns false'. Refute it at one input. -/
def fnExactComposeWrong : ChangeSpec := { name := "fnExactCompose", fn := fun _ => fun
  | [d1, d2] => { results := [.lit (.bool false)], args := [d1, d2] }
  | _ => none }
def FnExactComposeWrongFalsely : Prop := fnExactComposeRow.holds Try.pinned (OpenSpec.ofChange fnExactComposeWrong)

/-- 'laws.FnExactBetween': WHATEVER THE INPUT: true; the input reads as it did. -/
def fnExactBetweenSpec : ChangeSpec := { name := "fnExactBetween", fn := fun _ => fun
  | [d1, d2] => { results := [.lit (.bool true)], args := [d1, d2] }
  | _ => none }
def fnExactBetweenRow : OpenClaim := { program := "ytekppknakegadaa", sum := "ce3e157196642faa96a65c13a2f91e08112a9ccd7f84f4ecba9ec7403046d0d2", func := "loop.example/g00810/laws.FnExactBetween", spec := "fnExactBetween", apart := false }
def FnExactBetweenSaid : Prop := fnExactBetweenRow.holds Try.pinned (OpenSpec.ofChange fnExactBetweenSpec)

/-- ITS FALSE NEIGHBOUR: 'it returns false'. Refute it at one input. -/
def fnExactBetweenWrong : ChangeSpec := { name := "fnExactBetween", fn := fun _ => fun
  | [d1, d2] => { results := [.lit (.bool false)], args := [d1, d2] }
  | _ => none }
def FnExactBetweenWrongFalsely : Prop := fnExactBetweenRow.holds Try.pinned (OpenSpec.ofChange fnExactBetweenWrong)

/-- 'laws.FnExactComposeAll': WHATEVER THE INPUT: true; the input reads as it did. -/
def fnExactComposeAllSpec : ChangeSpec := { name := "fnExactComposeAll", fn := fun _ => fun
  | [d] => { results := [.lit (.bool true)], args := [d] }
  | _ => none }
def fnExactComposeAllRow : OpenClaim := { program := "ytekppknakegadaa", sum := "ce3e157196642faa96a65c13a2f91e08112a9ccd7f84f4ecba9ec7403046d0d2", func := "loop.example/g00810/laws.FnExactComposeAll", spec := "fnExactComposeAll", apart := false }
def FnExactComposeAllSaid : Prop := fnExactComposeAllRow.holds Try.pinned (OpenSpec.ofChange fnExactComposeAllSpec)

/-- ITS FALSE NEIGHBOUR: 'it returns false'. Refute it at one input. -/
def fnExactComposeAllWrong : ChangeSpec := { name := "fnExactComposeAll", fn := fun _ => fun
  | [d] => { results := [.lit (.bool false)], args := [d] }
  | _ => none }
def FnExactComposeAllWrongFalsely : Prop := fnExactComposeAllRow.holds Try.pinned (OpenSpec.ofChange fnExactComposeAllWrong)

/-- 'laws.FnExactSplitAny': WHATEVER THE INPUT: true; the input reads as it did. -/
def fnExactSplitAnySpec : ChangeSpec := { name := "fnExactSplitAny", fn := fun _ => fun
  | [d1, d2] => { results := [.lit (.bool true)], args := [d1, d2] }
  | _ => none }
def fnExactSplitAnyRow : OpenClaim := { program := "ytekppknakegadaa", sum := "ce3e157196642faa96a65c13a2f91e08112a9ccd7f84f4ecba9ec7403046d0d2", func := "loop.example/g00810/laws.FnExactSplitAny", spec := "fnExactSplitAny", apart := false }
def FnExactSplitAnySaid : Prop := fnExactSplitAnyRow.holds Try.pinned (OpenSpec.ofChange fnExactSplitAnySpec)

/-- ITS FALSE NEIGHBOUR: 'it returns false'. Refute it at one input. -/
def fnExactSplitAnyWrong : ChangeSpec := { name := "fnExactSplitAny", fn := fun _ => fun
  | [d1, d2] => { results := [.lit (.bool false)], args := [d1, d2] }
  | _ => none }
def FnExactSplitAnyWrongFalsely : Prop := fnExactSplitAnyRow.holds Try.pinned (OpenSpec.ofChange fnExactSplitAnyWrong)

/-- 'laws.FnExactSplitLines': WHATEVER THE INPUT: true; the input reads as it did. -/
def fnExactSplitLinesSpec : ChangeSpec := { name := "fnExactSplitLines", fn := fun _ => fun
  | [d] => { results := [.lit (.bool true)], args := [d] }
  | _ => none }
def fnExactSplitLinesRow : OpenClaim := { program := "ytekppknakegadaa", sum := "ce3e157196642faa96a65c13a2f91e08112a9ccd7f84f4ecba9ec7403046d0d2", func := "loop.example/g00810/laws.FnExactSplitLines", spec := "fnExactSplitLines", apart := false }
def FnExactSplitLinesSaid : Prop := fnExactSplitLinesRow.holds Try.pinned (OpenSpec.ofChange fnExactSplitLinesSpec)

/-- ITS FALSE NEIGHBOUR: 'it returns false'. Refute it at one input. -/
def fnExactSplitLinesWrong : ChangeSpec := { name := "fnExactSplitLines", fn := fun _ => fun
  | [d] => { results := [.lit (.bool false)], args := [d] }
  | _ => none }
def FnExactSplitLinesWrongFalsely : Prop := fnExactSplitLinesRow.holds Try.pinned (OpenSpec.ofChange fnExactSplitLinesWrong)

/-- 'laws.FnExactNatOf': WHATEVER THE INPUT: true; the input reads as it did. -/
def fnExactNatOfSpec : ChangeSpec := { name := "fnExactNatOf", fn := fun _ => fun
  | [d] => { results := [.lit (.bool true)], args := [d] }
  | _ => none }
def fnExactNatOfRow : OpenClaim := { program := "ytekppknakegadaa", sum := "ce3e157196642faa96a65c13a2f91e08112a9ccd7f84f4ecba9ec7403046d0d2", func := "loop.example/g00810/laws.FnExactNatOf", spec := "fnExactNatOf", apart := false }
def FnExactNatOfSaid : Prop := fnExactNatOfRow.holds Try.pinned (OpenSpec.ofChange fnExactNatOfSpec)

/-- ITS FALSE NEIGHBOUR: 'it returns false'. Refute it at one input. -/
def fnExactNatOfWrong : ChangeSpec := { name := "fnExactNatOf", fn := fun _ => fun
  | [d] => { results := [.lit (.bool false)], args := [d] }
  | _ => none }
def FnExactNatOfWrongFalsely : Prop := fnExactNatOfRow.holds Try.pinned (OpenSpec.ofChange fnExactNatOfWrong)

/-- 'laws.FnExactNatCmp': WHATEVER THE INPUT: true; the input reads as it did. -/
def fnExactNatCmpSpec : ChangeSpec := { name := "fnExactNatCmp", fn := fun _ => fun
  | [d1, d2] => { results := [.lit (.bool true)], args := [d1, d2] }
  | _ => none }
def fnExactNatCmpRow : OpenClaim := { program := "ytekppknakegadaa", sum := "ce3e157196642faa96a65c13a2f91e08112a9ccd7f84f4ecba9ec7403046d0d2", func := "loop.example/g00810/laws.FnExactNatCmp", spec := "fnExactNatCmp", apart := false }
def FnExactNatCmpSaid : Prop := fnExactNatCmpRow.holds Try.pinned (OpenSpec.ofChange fnExactNatCmpSpec)

/-- ITS FALSE NEIGHBOUR: 'it returns false'. Refute it at one input. -/
def fnExactNatCmpWrong : ChangeSpec := { name := "fnExactNatCmp", fn := fun _ => fun
  | [d1, d2] => { results := [.lit (.bool false)], args := [d1, d2] }
  | _ => none }
def FnExactNatCmpWrongFalsely : Prop := fnExactNatCmpRow.holds Try.pinned (OpenSpec.ofChange fnExactNatCmpWrong)

/-- 'laws.FnExactBigIntOk': WHATEVER THE INPUT: true; the input reads as it did. -/
def fnExactBigIntOkSpec : ChangeSpec := { name := "fnExactBigIntOk", fn := fun _ => fun
  | [d] => { results := [.lit (.bool true)], args := [d] }
  | _ => none }
def fnExactBigIntOkRow : OpenClaim := { program := "ytekppknakegadaa", sum := "ce3e157196642faa96a65c13a2f91e08112a9ccd7f84f4ecba9ec7403046d0d2", func := "loop.example/g00810/laws.FnExactBigIntOk", spec := "fnExactBigIntOk", apart := false }
def FnExactBigIntOkSaid : Prop := fnExactBigIntOkRow.holds Try.pinned (OpenSpec.ofChange fnExactBigIntOkSpec)

/-- ITS FALSE NEIGHBOUR: 'it returns false'. Refute it at one input. -/
def fnExactBigIntOkWrong : ChangeSpec := { name := "fnExactBigIntOk", fn := fun _ => fun
  | [d] => { results := [.lit (.bool false)], args := [d] }
  | _ => none }
def FnExactBigIntOkWrongFalsely : Prop := fnExactBigIntOkRow.holds Try.pinned (OpenSpec.ofChange fnExactBigIntOkWrong)

/-- 'laws.FnExactRatEqual': WHATEVER THE INPUT: true; the input reads as it did. -/
def fnExactRatEqualSpec : ChangeSpec := { name := "fnExactRatEqual", fn := fun _ => fun
  | [d1, d2] => { results := [.lit (.bool true)], args := [d1, d2] }
  | _ => none }
def fnExactRatEqualRow : OpenClaim := { program := "ytekppknakegadaa", sum := "ce3e157196642faa96a65c13a2f91e08112a9ccd7f84f4ecba9ec7403046d0d2", func := "loop.example/g00810/laws.FnExactRatEqual", spec := "fnExactRatEqual", apart := false }
def FnExactRatEqualSaid : Prop := fnExactRatEqualRow.holds Try.pinned (OpenSpec.ofChange fnExactRatEqualSpec)

/-- ITS FALSE NEIGHBOUR: 'it returns false'. Refute it at one input. -/
def fnExactRatEqualWrong : ChangeSpec := { name := "fnExactRatEqual", fn := fun _ => fun
  | [d1, d2] => { results := [.lit (.bool false)], args := [d1, d2] }
  | _ => none }
def FnExactRatEqualWrongFalsely : Prop := fnExactRatEqualRow.holds Try.pinned (OpenSpec.ofChange fnExactRatEqualWrong)

/-- 'laws.FnExactBigIntOf': WHATEVER THE INPUT: true; the input reads as it did. -/
def fnExactBigIntOfSpec : ChangeSpec := { name := "fnExactBigIntOf", fn := fun _ => fun
  | [d] => { results := [.lit (.bool true)], args := [d] }
  | _ => none }
def fnExactBigIntOfRow : OpenClaim := { program := "ytekppknakegadaa", sum := "ce3e157196642faa96a65c13a2f91e08112a9ccd7f84f4ecba9ec7403046d0d2", func := "loop.example/g00810/laws.FnExactBigIntOf", spec := "fnExactBigIntOf", apart := false }
def FnExactBigIntOfSaid : Prop := fnExactBigIntOfRow.holds Try.pinned (OpenSpec.ofChange fnExactBigIntOfSpec)

/-- ITS FALSE NEIGHBOUR: 'it returns false'. Refute it at one input. -/
def fnExactBigIntOfWrong : ChangeSpec := { name := "fnExactBigIntOf", fn := fun _ => fun
  | [d] => { results := [.lit (.bool false)], args := [d] }
  | _ => none }
def FnExactBigIntOfWrongFalsely : Prop := fnExactBigIntOfRow.holds Try.pinned (OpenSpec.ofChange fnExactBigIntOfWrong)

/-- 'laws.FnExactNatToInt': WHATEVER THE INPUT: true; the input reads as it did. -/
def fnExactNatToIntSpec : ChangeSpec := { name := "fnExactNatToInt", fn := fun _ => fun
  | [d] => { results := [.lit (.bool true)], args := [d] }
  | _ => none }
def fnExactNatToIntRow : OpenClaim := { program := "ytekppknakegadaa", sum := "ce3e157196642faa96a65c13a2f91e08112a9ccd7f84f4ecba9ec7403046d0d2", func := "loop.example/g00810/laws.FnExactNatToInt", spec := "fnExactNatToInt", apart := false }
def FnExactNatToIntSaid : Prop := fnExactNatToIntRow.holds Try.pinned (OpenSpec.ofChange fnExactNatToIntSpec)

/-- ITS FALSE NEIGHBOUR: 'it returns false'. Refute it at one input. -/
def fnExactNatToIntWrong : ChangeSpec := { name := "fnExactNatToInt", fn := fun _ => fun
  | [d] => { results := [.lit (.bool false)], args := [d] }
  | _ => none }
def FnExactNatToIntWrongFalsely : Prop := fnExactNatToIntRow.holds Try.pinned (OpenSpec.ofChange fnExactNatToIntWrong)

/- THE SECOND FORM. 'bulk': how many values and letters a reading holds, each counted each time it is reached (what is shared counts as often as it is met; a slice's spare places count too). A statement '..UptoSaid' is the law's where the arguments, and the package variables that the reading takes, are together of bulk at most 1048576: NARROWER than '..Said'. Prove '..Said' where nothing that the law and all that it calls make is longer than what came in: it says more and counts as full. Else prove '..UptoSaid'. A law counts once. -/
mutual
def uptoBulk {H : Type} : DataW H → Nat
  | .lit (.string bytes) => bytes.length + 1
  | .lit _ => 1
  | .nil => 1
  | .ptr d => uptoBulk d + 1
  | .slice elems spare => uptoBulkAll elems + uptoBulkAll spare + 1
  | .agg parts => uptoBulkAll parts + 1
  | .iface _ d => uptoBulk d + 1
  | .map entries => uptoBulkEntries entries + 1
  | .held _ => 1
def uptoBulkAll {H : Type} : List (DataW H) → Nat
  | [] => 0
  | d :: r => uptoBulk d + uptoBulkAll r
def uptoBulkEntries {H : Type} : List (Lit × DataW H) → Nat
  | [] => 0
  | x :: r => uptoBulkEntry x + uptoBulkEntries r
def uptoBulkEntry {H : Type} : Lit × DataW H → Nat
  | (.string bytes, d) => bytes.length + uptoBulk d + 1
  | (_, d) => uptoBulk d + 1
 end
def uptoSmall : (H : Type) → List (DataW H) → Bool := fun _ ds => decide (uptoBulkAll ds ≤ 1048576)
def OpenSpec.upto (s : _root_.Go.ChangeSpec) : _root_.Go.OpenSpec := { _root_.Go.OpenSpec.ofChange s with cond := some uptoSmall }

/-- 'laws.FnExactInverse', WHERE WHAT IT READS IS OF BULK AT MOST 1048576: true; the input reads as it did. -/
def fnExactInverseUptoRow : OpenClaim := { program := "ytekppknakegadaa", sum := "ce3e157196642faa96a65c13a2f91e08112a9ccd7f84f4ecba9ec7403046d0d2", func := "loop.example/g00810/laws.FnExactInverse", spec := "fnExactInverse", apart := false, narrowed := true }
def FnExactInverseUptoSaid : Prop := fnExactInverseUptoRow.holds Try.pinned (OpenSpec.upto fnExactInverseSpec)

/-- 'laws.FnExactCompose', WHERE WHAT IT READS IS OF BULK AT MOST 1048576: true; the input reads as it did. -/
def fnExactComposeUptoRow : OpenClaim := { program := "ytekppknakegadaa", sum := "ce3e157196642faa96a65c13a2f91e08112a9ccd7f84f4ecba9ec7403046d0d2", func := "loop.example/g00810/laws.FnExactCompose", spec := "fnExactCompose", apart := false, narrowed := true }
def FnExactComposeUptoSaid : Prop := fnExactComposeUptoRow.holds Try.pinned (OpenSpec.upto fnExactComposeSpec)

/-- 'laws.FnExactBetween', WHERE WHAT IT READS IS OF BULK AT MOST 1048576: true; the input reads as it did. -/
def fnExactBetweenUptoRow : OpenClaim := { program := "ytekppknakegadaa", sum := "ce3e157196642faa96a65c13a2f91e08112a9ccd7f84f4ecba9ec7403046d0d2", func := "loop.example/g00810/laws.FnExactBetween", spec := "fnExactBetween", apart := false, narrowed := true }
def FnExactBetweenUptoSaid : Prop := fnExactBetweenUptoRow.holds Try.pinned (OpenSpec.upto fnExactBetweenSpec)

/-- 'laws.FnExactComposeAll', WHERE WHAT IT READS IS OF BULK AT MOST 1048576: true; the input reads as it did. -/
def fnExactComposeAllUptoRow : OpenClaim := { program := "ytekppknakegadaa", sum := "ce3e157196642faa96a65c13a2f91e08112a9ccd7f84f4ecba9ec7403046d0d2", func := "loop.example/g00810/laws.FnExactComposeAll", spec := "fnExactComposeAll", apart := false, narrowed := true }
def FnExactComposeAllUptoSaid : Prop := fnExactComposeAllUptoRow.holds Try.pinned (OpenSpec.upto fnExactComposeAllSpec)

/-- 'laws.FnExactSplitAny', WHERE WHAT IT READS IS OF BULK AT MOST 1048576: true; the input reads as it did. -/
def fnExactSplitAnyUptoRow : OpenClaim := { program := "ytekppknakegadaa", sum := "ce3e157196642faa96a65c13a2f91e08112a9ccd7f84f4ecba9ec7403046d0d2", func := "loop.example/g00810/laws.FnExactSplitAny", spec := "fnExactSplitAny", apart := false, narrowed := true }
def FnExactSplitAnyUptoSaid : Prop := fnExactSplitAnyUptoRow.holds Try.pinned (OpenSpec.upto fnExactSplitAnySpec)

/-- 'laws.FnExactSplitLines', WHERE WHAT IT READS IS OF BULK AT MOST 1048576: true; the input reads as it did. -/
def fnExactSplitLinesUptoRow : OpenClaim := { program := "ytekppknakegadaa", sum := "ce3e157196642faa96a65c13a2f91e08112a9ccd7f84f4ecba9ec7403046d0d2", func := "loop.example/g00810/laws.FnExactSplitLines", spec := "fnExactSplitLines", apart := false, narrowed := true }
def FnExactSplitLinesUptoSaid : Prop := fnExactSplitLinesUptoRow.holds Try.pinned (OpenSpec.upto fnExactSplitLinesSpec)

/-- 'laws.FnExactNatOf', WHERE WHAT IT READS IS OF BULK AT MOST 1048576: true; the input reads as it did. -/
def fnExactNatOfUptoRow : OpenClaim := { program := "ytekppknakegadaa", sum := "ce3e157196642faa96a65c13a2f91e08112a9ccd7f84f4ecba9ec7403046d0d2", func := "loop.example/g00810/laws.FnExactNatOf", spec := "fnExactNatOf", apart := false, narrowed := true }
def FnExactNatOfUptoSaid : Prop := fnExactNatOfUptoRow.holds Try.pinned (OpenSpec.upto fnExactNatOfSpec)

/-- 'laws.FnExactNatCmp', WHERE WHAT IT READS IS OF BULK AT MOST 1048576: true; the input reads as it did. -/
def fnExactNatCmpUptoRow : OpenClaim := { program := "ytekppknakegadaa", sum := "ce3e157196642faa96a65c13a2f91e08112a9ccd7f84f4ecba9ec7403046d0d2", func := "loop.example/g00810/laws.FnExactNatCmp", spec := "fnExactNatCmp", apart := false, narrowed := true }
def FnExactNatCmpUptoSaid : Prop := fnExactNatCmpUptoRow.holds Try.pinned (OpenSpec.upto fnExactNatCmpSpec)

/-- 'laws.FnExactBigIntOk', WHERE WHAT IT READS IS OF BULK AT MOST 1048576: true; the input reads as it did. -/
def fnExactBigIntOkUptoRow : OpenClaim := { program := "ytekppknakegadaa", sum := "ce3e157196642faa96a65c13a2f91e08112a9ccd7f84f4ecba9ec7403046d0d2", func := "loop.example/g00810/laws.FnExactBigIntOk", spec := "fnExactBigIntOk", apart := false, narrowed := true }
def FnExactBigIntOkUptoSaid : Prop := fnExactBigIntOkUptoRow.holds Try.pinned (OpenSpec.upto fnExactBigIntOkSpec)

/-- 'laws.FnExactRatEqual', WHERE WHAT IT READS IS OF BULK AT MOST 1048576: true; the input reads as it did. -/
def fnExactRatEqualUptoRow : OpenClaim := { program := "ytekppknakegadaa", sum := "ce3e157196642faa96a65c13a2f91e08112a9ccd7f84f4ecba9ec7403046d0d2", func := "loop.example/g00810/laws.FnExactRatEqual", spec := "fnExactRatEqual", apart := false, narrowed := true }
def FnExactRatEqualUptoSaid : Prop := fnExactRatEqualUptoRow.holds Try.pinned (OpenSpec.upto fnExactRatEqualSpec)

/-- 'laws.FnExactBigIntOf', WHERE WHAT IT READS IS OF BULK AT MOST 1048576: true; the input reads as it did. -/
def fnExactBigIntOfUptoRow : OpenClaim := { program := "ytekppknakegadaa", sum := "ce3e157196642faa96a65c13a2f91e08112a9ccd7f84f4ecba9ec7403046d0d2", func := "loop.example/g00810/laws.FnExactBigIntOf", spec := "fnExactBigIntOf", apart := false, narrowed := true }
def FnExactBigIntOfUptoSaid : Prop := fnExactBigIntOfUptoRow.holds Try.pinned (OpenSpec.upto fnExactBigIntOfSpec)

/-- 'laws.FnExactNatToInt', WHERE WHAT IT READS IS OF BULK AT MOST 1048576: true; the input reads as it did. -/
def fnExactNatToIntUptoRow : OpenClaim := { program := "ytekppknakegadaa", sum := "ce3e157196642faa96a65c13a2f91e08112a9ccd7f84f4ecba9ec7403046d0d2", func := "loop.example/g00810/laws.FnExactNatToInt", spec := "fnExactNatToInt", apart := false, narrowed := true }
def FnExactNatToIntUptoSaid : Prop := fnExactNatToIntUptoRow.holds Try.pinned (OpenSpec.upto fnExactNatToIntSpec)

end Rows
end Go.Proofs.Ytekppknakegadaa
