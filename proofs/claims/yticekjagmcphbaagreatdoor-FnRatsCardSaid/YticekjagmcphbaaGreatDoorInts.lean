/-
  The laws' own helpers on lists of ints: copy, compare, mark. Written by an AI agent.
-/
import Derived.Test.YticekjagmcphbaaGreatDoorKit
import Derived.Deep.QuietTactic
import Derived.BigQuiet
namespace Go.Proofs.YticekjagmcphbaaGreatDoor
open Go.RowKit

theorem Tryz.infoInt : (Tryz.prog.info? 3).map (fun i => (i.zero, i.size, i.bytes)) = some (some (.int .i64 0), 1, 8) := by kernel_rfl

theorem list_ne {xs ys : List Int} {k : Nat} {d f : Int} (hd : xs[k]? = some d) (hf : ys[k]? = some f) (h : d ≠ f) : xs ≠ ys := by
  rintro rfl
  rw [hd] at hf
  exact h (Option.some.inj hf)
theorem take_snoc {α : Type} {xs : List α} {k : Nat} {d : α} (hd : xs[k]? = some d) : xs.take (k + 1) = xs.take k ++ [d] := by
  rw [List.take_add_one, hd]; rfl

end Go.Proofs.YticekjagmcphbaaGreatDoor
