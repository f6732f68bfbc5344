/-
  DERIVED. GIVEN WITH THE SEED: THE CARDS: each row of YticekjagmcphbaaGreatDoorRows.lean that lists a variable, with what it lists TIED to the program's text (the seventh form; the later family's looks); each row that meets fmt, with fmt's text TOLD by the authors' own Lean function (tested against real Go, not proved from fmt's source: count such statements apart). THE CARD IS WHAT COUNTS. Prove the row's statement (the work); the ties are given (YticekjagmcphbaaGreatDoorTie.lean); close each card by the builder's one call (the guide's Derived/Test/ToyasCard.lean, 'card_holds'). Laid BY PROGRAM, IN A SANDBOX (cutbox-door.mjs). By AI agents, Wed Nov 11 2026. No macro, syntax, notation, axiom, sorry.
-/
import Derived.Test.YticekjagmcphbaaGreatDoorRows
import GoSem.ClaimSeven
namespace Go.Proofs.YticekjagmcphbaaGreatDoor
namespace Rows

/-- THE TIED CARD OF 'laws.FnRats'. -/
def fnRatsCard : Claim7 := { stood := { row := fnRatsRow, standIns := [], harness := (true, "9441bfbee5c7bd54365487552e8eea0ca3f0c9398de37ac2b713f2fdce983e11"), looks := false }, kinds := [], alts := [], laidByText := true, laidKinds := [.data, .data, .data], laidTests := true, laidLooks := .later }
def FnRatsCardSaid : Prop := Claim7.holds Tryz.pinned (.plain (OpenSpec.ofChange fnRatsSpec)) fnRatsCard

/-- THE SECOND FORM's CARD OF 'laws.FnRats'. -/
def fnRatsUptoCard : Claim7 := { stood := { row := fnRatsUptoRow, standIns := [], harness := (true, "9441bfbee5c7bd54365487552e8eea0ca3f0c9398de37ac2b713f2fdce983e11"), looks := false }, kinds := [], alts := [], laidByText := true, laidKinds := [.data, .data, .data], laidTests := true, laidLooks := .later }
def FnRatsUptoCardSaid : Prop := Claim7.holds Tryz.pinned (.plain (OpenSpec.upto fnRatsSpec)) fnRatsUptoCard
end Rows
end Go.Proofs.YticekjagmcphbaaGreatDoor
