/-
  The laws' helpers on big ints (a bool and a list): copy, size, compare, mark. Written by an AI agent.
-/
import Derived.Test.YticekjagmcphbaaGreatDoorOwn2
namespace Go.Proofs.YticekjagmcphbaaGreatDoor
open Go.RowKit

theorem bxcell {W w1 : World} (hb : Below W.heap.size W w1) : (∀ b o, b < W.heap.size → w1.cell? ⟨b, o, none⟩ = W.cell? ⟨b, o, none⟩) ∧ (∀ b o, b < W.heap.size → w1.frozen? ⟨b, o, none⟩ = W.frozen? ⟨b, o, none⟩) :=
  ⟨fun b o h => hb.cell (p := ⟨b, o, none⟩) h, fun b o h => by unfold World.frozen?; rw [hb.block b h]⟩
/-- A big int of the call's own is handed back: its sign s, its list xs, which lies in a block from lo up to hi. -/
def RetBig (e : TypeId) (s : Bool) (xs : List Int) (w : World) (en : Ending) (w' : World) : Prop :=
  ∃ A n c, en = .returned (.agg #[.bool s, .slice A n c]) ∧ Own w' w.heap.size e (.slice A n c) xs ∧ Below w.heap.size w w'

end Go.Proofs.YticekjagmcphbaaGreatDoor
