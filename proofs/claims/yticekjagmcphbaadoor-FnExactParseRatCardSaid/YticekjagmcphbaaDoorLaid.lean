/-
  What a row's listed variables give the walks: the table of powers of ten; the two sentinels; a world that meets the list. Written by an AI agent.
-/
import Derived.Test.YticekjagmcphbaaDoorFmtI
import Derived.Test.YticekjagmcphbaaDoorTie
import Derived.ProofKit
import Derived.LaidMore
import Derived.LaidLaws
import Derived.OpenShut
import Derived.Stop.Joined
import Derived.Stop.LaidErr
namespace Go.Proofs.YticekjagmcphbaaDoor
open Go.ChangeShapes Go.WideShapes Go.ChangeAt Go.RowKit

abbrev laid3 : List (String × DataW Unit) := Rows.fnExactFormatIntRow.laid
theorem door_met3 (os : Os) (args : Array Value) : laidMetH Tryd.prog laid3 ((World.doorLaid Tryd.prog 4000 os).forCall (fun _ _ => 0) ⟨#[], args, []⟩).memory :=
  laidMetH_of_parts3 (fuel := 8) (laidMet_of_run' 8 (by kernel_rfl) (by kernel_rfl)) (by kernel_rfl) (by kernel_rfl)
theorem tab_of_laid3 {W : World} (h : laidMetH Tryd.prog laid3 W) : Tab W := by
  rw [MakeChecks.laidMetH_plain _ _ _ (by kernel_rfl)] at h
  exact Lib.tabIs_of_head (g := 2) (t := 147) (by kernel_rfl) (by kernel_rfl) Tryd.underlying147 Tryd.underlying106 (by kernel_rfl) (by kernel_rfl) h.tail.tail
end Go.Proofs.YticekjagmcphbaaDoor
