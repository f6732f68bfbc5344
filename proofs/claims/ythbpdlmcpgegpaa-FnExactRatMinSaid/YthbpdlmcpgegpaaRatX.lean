/-
  Contracts: the exported functions on fractions, both packages. Written by an AI agent.
-/
import Derived.Test.YthbpdlmcpgegpaaRatN
namespace Go.Proofs.Ythbpdlmcpgegpaa
open Go.RowKit

def dv (ys : List Int) : Nat := (val ys).toNat
theorem dv_toL (m : Nat) : dv (toL m) = m := by unfold dv; rw [val_toL]; rfl
theorem nv_toL (m : Nat) : (val (toL m)).toNat = m := by rw [val_toL]; rfl
theorem q_len {p : Int × Nat} (h1 : p.1.natAbs < pw 24) (h2 : p.2 < pw 24) : (toL p.1.natAbs).length ≤ 2000000 ∧ (toL p.2).length ≤ 2000000 :=
  ⟨Nat.le_trans (len24.2 h1) (by omega), Nat.le_trans (len24.2 h2) (by omega)⟩
theorem ratF_len (s : Bool) (m b : Nat) : (toL (ratF s m b).1.natAbs).length ≤ 2000000 ∧ (toL (ratF s m b).2).length ≤ 2000000 := q_len (ratF_num s m b) (ratF_den s m b)
theorem zero_lenq : (toL ((0 : Int), (0 : Nat)).1.natAbs).length ≤ 2000000 ∧ (toL ((0 : Int), (0 : Nat)).2).length ≤ 2000000 := q_len (pw_pos 24) (pw_pos 24)
def ratMulF (s t : Bool) (xs ys us vs : List Int) : Int × Nat := if ratOkB s xs ys && ratOkB t us vs then ratZ (zv s xs * zv t us) (dv ys * dv vs) else (0, 0)
def ratDivF (s t : Bool) (xs ys us vs : List Int) : Int × Nat := if ratOkB s xs ys && ratOkB t us vs then ratF (s != t) (dv xs * dv vs) (dv ys * dv us) else (0, 0)
def ratCmpF (s t : Bool) (xs ys us vs : List Int) : Int := if ratOkB s xs ys && ratOkB t us vs then cmpZ (zv s xs * bigZ false (dv vs)) (zv t us * bigZ false (dv ys)) else 0
theorem ratMulF_len (s t : Bool) (xs ys us vs : List Int) : (toL (ratMulF s t xs ys us vs).1.natAbs).length ≤ 2000000 ∧ (toL (ratMulF s t xs ys us vs).2).length ≤ 2000000 := by
  unfold ratMulF
  split
  · exact ratF_len _ _ _
  · exact zero_lenq
theorem ratDivF_len (s t : Bool) (xs ys us vs : List Int) : (toL (ratDivF s t xs ys us vs).1.natAbs).length ≤ 2000000 ∧ (toL (ratDivF s t xs ys us vs).2).length ≤ 2000000 := by
  unfold ratDivF
  split
  · exact ratF_len _ _ _
  · exact zero_lenq
end Go.Proofs.Ythbpdlmcpgegpaa
