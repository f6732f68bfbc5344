/-
  Contracts: RatFromInt of both packages. Written by an AI agent.
-/
import Derived.Test.YthbpdlmcpgegpaaBigOf
import Derived.Test.YthbpdlmcpgegpaaRatM
namespace Go.Proofs.Ythbpdlmcpgegpaa
open Go.RowKit

theorem RetI.made {r : Int} {w w' : World} {en : Ending} (h : RetI r w en w') : RetZ r w en w' := by
  obtain ⟨A, n, c, e, o, b⟩ := h
  exact ⟨_, A, n, c, e, rfl, o, b⟩
theorem own_oneL {w : World} {g base e : Nat} (hg : g = w.heap.size) (hb : base ≤ w.heap.size) : Own (w.alloc (.cells #[.int .i64 1] e)) base e (.slice (some ⟨g, 0, none⟩) 1 1) (toL 1) := by
  subst hg
  rw [show toL 1 = [1] by rw [toL_pos (by omega), toL_zero]; rfl]
  exact own_one w 1 hb
theorem own_oneR {w : World} {g e : Nat} (hg : g = w.heap.size) : OwnR (w.alloc (.cells #[.int .i64 1] e)) g (g + 1) e (.slice (some ⟨g, 0, none⟩) 1 1) (toL 1) := by
  subst hg
  exact ⟨own_oneL rfl (Nat.le_refl _), fun k hk => by cases hk; exact Nat.lt_succ_self _⟩
theorem fromInt_len {n : Int} (h1 : -9223372036854775808 ≤ n) (h2 : n ≤ 9223372036854775807) : (toL n.natAbs).length ≤ 2000000 ∧ (toL 1).length ≤ 2000000 := by
  constructor
  · exact Nat.le_trans (toL_len_lt (k := 3) (by unfold pw; omega)) (by omega)
  · rw [toL_pos (by omega), toL_zero]
    simp



end Go.Proofs.Ythbpdlmcpgegpaa
