/-
  The law of long division, limb by limb from the top: no program in it. Written by an AI agent.
-/
import Derived.Test.YticekjagmcphbaaGreatDoorGuess
import Derived.Test.YticekjagmcphbaaGreatDoorOwn2
namespace Go.Proofs.YticekjagmcphbaaGreatDoor
open Go.RowKit

/-- What holds ahead of limb k of the division: Q has the limbs so far, r is the rest. -/
def DivOut (m n k : Nat) (Q : List Int) (r : Nat) : Prop := Limbs Q ∧ r < n ∧ (∀ i d, i < k → Q[i]? = some d → d = 0) ∧ val Q * (n : Int) + (pw k : Int) * (r : Int) = (pw k : Int) * ((m / pw k : Nat) : Int)
theorem DivOut.start (m n L : Nat) (h0 : 0 < n) (hm : m < pw L) : DivOut m n L (List.replicate L 0) 0 := by
  refine ⟨Limbs.replicate L, h0, fun i d _ hd => List.eq_of_mem_replicate (List.mem_of_getElem? hd), ?_⟩
  · rw [val_replicate, Nat.div_eq_of_lt hm]
    simp
theorem DivOut.zero {m n k : Nat} {Q : List Int} {r : Nat} (h : DivOut m n (k + 1) Q r) (hk : k < Q.length) : Q[k]? = some 0 := by
  have h1 : Q[k]? = some Q[k] := List.getElem?_eq_getElem hk
  rw [h1, h.2.2.1 k Q[k] (by omega) h1]
/-- Within limb k: x is the digit so far, s is left of d + B r. -/
def DivIn (m n k r x s : Nat) : Prop := x * n + s = lim m k + 1000000000 * r
theorem DivIn.start (m n k r : Nat) : DivIn m n k r 0 (lim m k + 1000000000 * r) := by
  unfold DivIn
  omega
theorem DivIn.lt {m n k r x s : Nat} {Q : List Int} (h : DivIn m n k r x s) (ho : DivOut m n (k + 1) Q r) : s < n * 1000000000 := by
  have h1 := lim_lt m k
  have h2 := ho.2.1
  have h3 : s ≤ lim m k + 1000000000 * r := by
    unfold DivIn at h
    omega
  omega
theorem DivIn.digit {m n k r x s : Nat} {Q : List Int} (h : DivIn m n k r x s) (ho : DivOut m n (k + 1) Q r) : x < 1000000000 := by
  have h1 := lim_lt m k
  have h2 := ho.2.1
  have h3 : x * n < 1000000000 * n := by
    unfold DivIn at h
    omega
  exact Nat.lt_of_mul_lt_mul_right h3
theorem DivIn.step {m n k r x s d : Nat} (h : DivIn m n k r x s) (hd : d * n ≤ s) : DivIn m n k r (x + d) (s - d * n) := by
  unfold DivIn at *
  rw [Nat.add_mul]
  omega
theorem DivIn.close {m n k r x s : Nat} {Q : List Int} (h : DivIn m n k r x s) (ho : DivOut m n (k + 1) Q r) (hs : s < n) (hk : k < Q.length) : DivOut m n k (Q.set k (x : Int)) s := by
  have hx := h.digit ho
  refine ⟨ho.1.set (by omega) (by omega), hs, fun i d hi hd => ?_, ?_⟩
  · rw [List.getElem?_set_ne (by omega)] at hd
    exact ho.2.2.1 i d (by omega) hd
  · rw [val_set (ho.zero hk)]
    have h4 := ho.2.2.2
    have h5 : ((m / pw k : Nat) : Int) = ((m / pw (k + 1) : Nat) : Int) * 1000000000 + (lim m k : Int) := by
      rw [div_pw_succ]
      unfold lim
      omega
    have h6 : (x : Int) * (n : Int) + (s : Int) = (lim m k : Int) + 1000000000 * (r : Int) := by
      have hy : ((x * n : Nat) : Int) = (x : Int) * (n : Int) := Int.natCast_mul x n
      rw [← hy]
      unfold DivIn at h
      generalize x * n = y at *
      omega
    rw [h5]
    have hB : ((1000000000 : Nat) : Int) = 1000000000 := rfl
    generalize ((m / pw (k + 1) : Nat) : Int) = M at *
    rw [pw_succ, Int.natCast_mul, hB] at h4
    generalize val Q = V at *
    generalize (pw k : Int) = p at *
    generalize (lim m k : Int) = d at *
    have e1 : (V + p * ((x : Int) - 0)) * (n : Int) + p * (s : Int) = V * n + p * ((x : Int) * n + s) := by
      rw [Int.sub_zero, Int.add_mul, Int.mul_add, Int.mul_assoc]
      omega
    have e2 : 1000000000 * p * (r : Int) = p * (1000000000 * (r : Int)) := by
      rw [Int.mul_comm 1000000000 p, Int.mul_assoc]
    have e3 : 1000000000 * p * M = p * (M * 1000000000) := by
      rw [Int.mul_comm 1000000000 p, Int.mul_assoc, Int.mul_comm M]
    rw [e2, e3] at h4
    rw [e1, h6, Int.mul_add, Int.mul_add, ← h4]
    omega
theorem DivOut.done {m n : Nat} {Q : List Int} {r : Nat} (h : DivOut m n 0 Q r) : Limbs Q ∧ (val Q).toNat = m / n ∧ r = m % n := by
  obtain ⟨h1, h2, _, h4⟩ := h
  have h0 := val_nonneg h1
  obtain ⟨q, hq⟩ := Int.eq_ofNat_of_zero_le h0
  rw [hq, pw_zero, Nat.div_one] at h4
  have h5 : q * n + r = m := by
    have : (q : Int) * (n : Int) + (r : Int) = (m : Int) := by simpa using h4
    exact_mod_cast this
  refine ⟨h1, ?_, ?_⟩
  · rw [hq, Int.toNat_natCast, ← h5, Nat.add_comm, Nat.add_mul_div_right _ _ (by omega), Nat.div_eq_of_lt h2, Nat.zero_add]
  · rw [← h5, Nat.add_comm, Nat.add_mul_mod_self_right, Nat.mod_eq_of_lt h2]
theorem toL_digit {d : Nat} (h1 : 1 ≤ d) (h2 : d < 1000000000) : toL d = [(d : Int)] := by
  rw [toL_pos h1, Nat.mod_eq_of_lt h2, Nat.div_eq_of_lt h2, toL_zero]
theorem val_shift (d : Int) (r : Nat) : val ([d] ++ toL r) = d + 1000000000 * (r : Int) := by
  show val (d :: toL r) = _
  rw [val, val_toL]
theorem limbs_shift {d : Int} (r : Nat) (h0 : 0 ≤ d) (h1 : d < 1000000000) : Limbs ([d] ++ toL r) := Limbs.cons h0 h1 (limbs_toL r)

/-- Two rows of the call's own are handed back, in blocks apart. -/
def RetTwo (e : TypeId) (xs ys : List Int) (w : World) (en : Ending) (w' : World) : Prop :=
  ∃ r s lo1 hi1 lo2 hi2, en = .returned (.tuple #[r, s]) ∧ OwnR w' lo1 hi1 e r xs ∧ OwnR w' lo2 hi2 e s ys ∧ w.heap.size ≤ lo1 ∧ w.heap.size ≤ lo2 ∧ (hi1 ≤ lo2 ∨ hi2 ≤ lo1) ∧ hi1 ≤ w'.heap.size ∧ hi2 ≤ w'.heap.size ∧ Below w.heap.size w w' ∧ lo1 ≤ hi1 ∧ lo2 ≤ hi2
theorem Own.drewN {w : World} {lo e : Nat} {v : Value} {xs : List Int} (h : Own w lo e v xs) (k : Nat) : Own (w.drewN k) lo e v xs := h.below (below_drewN (Below.refl _ _) k)
theorem Row.ownR {w : World} {lo e g n : Nat} {xs : List Int} (h : Row w lo e g n xs) (hn : xs.length = n) : OwnR w lo (g + 1) e (.slice (some ⟨g, 0, none⟩) xs.length n) xs :=
  ⟨h.own hn, fun k hk => by cases hk; exact Nat.lt_succ_self g⟩
end Go.Proofs.YticekjagmcphbaaGreatDoor
