/-
  Contracts: NatDiv of both packages. Written by an AI agent.
-/
import Derived.Test.YticekjagmcphbaaGreatDoorDivF
import Derived.Test.YticekjagmcphbaaGreatDoorDivT
namespace Go.Proofs.YticekjagmcphbaaGreatDoor
open Go.RowKit

def natDivF (xs ys : List Int) : List Int × List Int := if okB xs = true ∧ okB ys = true ∧ 0 < ys.length then (toL ((val xs).toNat / (val ys).toNat), toL ((val xs).toNat % (val ys).toNat)) else ([], [])
theorem natDivF_toL {m n : Nat} (hm : okB (toL m) = true) (hn : okB (toL n) = true) (h : 0 < (toL n).length) : natDivF (toL m) (toL n) = (toL (m / n), toL (m % n)) := by
  unfold natDivF
  rw [if_pos ⟨hm, hn, h⟩, val_toL, val_toL, Int.toNat_natCast, Int.toNat_natCast]
theorem natDivF_len (xs ys : List Int) : (natDivF xs ys).1.length ≤ 60 ∧ (natDivF xs ys).2.length ≤ 60 := by
  unfold natDivF
  split
  · rename_i h
    have h1 := okB_iff.1 h.1
    have h2 := val_lt h1.2.1
    have h3 := pw_le h1.1
    have h4 := val_nonneg h1.2.1
    constructor
    · refine toL_len_lt (Nat.lt_of_le_of_lt (Nat.div_le_self _ _) ?_)
      omega
    · refine toL_len_lt (Nat.lt_of_le_of_lt (Nat.mod_le _ _) ?_)
      omega
  · simp
theorem ret_none {e : TypeId} {w : World} {p : List Int × List Int} (h : p = ([], [])) : RetTwo e p.1 p.2 w (.returned (.tuple #[.slice none 0 0, .slice none 0 0])) w := by
  rw [h]
  exact ⟨_, _, w.heap.size, w.heap.size, w.heap.size, w.heap.size, rfl, ⟨Own.nil _ _ _, fun k hk => by cases hk⟩, ⟨Own.nil _ _ _, fun k hk => by cases hk⟩, Nat.le_refl _, Nat.le_refl _, .inl (Nat.le_refl _), Nat.le_refl _, Nat.le_refl _, Below.refl _ _, Nat.le_refl _, Nat.le_refl _⟩

end Go.Proofs.YticekjagmcphbaaGreatDoor
