/-
  Contracts: NatAdd. Written by an AI agent.
-/
import Derived.Test.YticekjagmcphbaaGreatDoorAdd
namespace Go.Proofs.YticekjagmcphbaaGreatDoor
open Go.RowKit

def natAddF (xs ys : List Int) : List Int := if okB xs = true ∧ okB ys = true then toL (limN ((val xs).toNat + (val ys).toNat)) else []
theorem natAddF_toL {m n : Nat} (hm : okB (toL m) = true) (hn : okB (toL n) = true) : natAddF (toL m) (toL n) = toL (limN (m + n)) := by
  unfold natAddF
  rw [if_pos ⟨hm, hn⟩, val_toL, val_toL, Int.toNat_natCast, Int.toNat_natCast]
theorem toL_lim_len (n : Nat) : (toL (limN n)).length ≤ 60 := toL_len_le.2 (limN_lt n)
theorem natAddF_len (xs ys : List Int) : (natAddF xs ys).length ≤ 60 := by
  unfold natAddF
  split
  · exact toL_lim_len _
  · simp
theorem lt200 {m : Nat} (h : m < pw 60) : m < pw 200 := Nat.lt_of_lt_of_le h (pw_le (by omega))

/-- The limit behind a call that made toL n. -/
theorem spec_limit (v : Value) (xs : List Int) (lo : Nat) (w : World) (h : Own w lo 3 v xs) (hl : Limbs xs) :
    Calls Tryz.prog 79 #[v] w fun en w' => ∃ r, en = .returned r ∧ Own w' lo 3 r (toL (limN (val xs).toNat)) ∧ w = w' := by
  obtain ⟨A, c, rfl, h1, h2, h3⟩ := h.form
  exact (spec_natCap A c xs w h.sl hl).mono fun _ _ ⟨he, hw⟩ => ⟨_, he, hw ▸ (h.trim hl).lim, hw⟩

end Go.Proofs.YticekjagmcphbaaGreatDoor
