/-
  Contracts: multiplying natural numbers. Written by an AI agent.
-/
import Derived.Test.YtekppknakegadaaSub
import Derived.Deep.QuietTactic
import Derived.BigQuiet
import Derived.IntWalk
namespace Go.Proofs.Ytekppknakegadaa
open Go.RowKit

/-- The limb i of m. -/
def lim (m i : Nat) : Nat := m / pw i % 1000000000
theorem mod_pw_succ (m i : Nat) : m % pw (i + 1) = m % pw i + pw i * lim m i := by
  rw [pw_succ, Nat.mul_comm 1000000000 (pw i), Nat.mod_mul]
  rfl
/-- What the product is worth at limb i of m, limb j of n. -/
def mulV (m n i j : Nat) : Nat := (m % pw i) * n + pw i * (lim m i * (n % pw j))
theorem mulV_zero (m n i : Nat) : mulV m n i 0 = (m % pw i) * n := by
  unfold mulV
  rw [pw_zero, Nat.mod_one, Nat.mul_zero, Nat.mul_zero, Nat.add_zero]
theorem mulV_step (m n i j : Nat) : mulV m n i (j + 1) = mulV m n i j + pw (i + j) * (lim m i * lim n j) := by
  unfold mulV
  rw [mod_pw_succ n j, Nat.mul_add, Nat.mul_add, ← Nat.add_assoc, pw_add]
  congr 1
  rw [Nat.mul_assoc, Nat.mul_left_comm (lim m i)]
theorem mulV_last {m n i j : Nat} (h : n < pw j) : mulV m n i j = (m % pw (i + 1)) * n := by
  unfold mulV
  rw [Nat.mod_eq_of_lt h, mod_pw_succ m i, Nat.add_mul, Nat.mul_assoc]
theorem lim_lt (m i : Nat) : lim m i < 1000000000 := Nat.mod_lt _ (by omega)
theorem mul_bound {a b : Int} (ha : 0 ≤ a) (ha' : a < 1000000000) (hb : 0 ≤ b) (hb' : b < 1000000000) : 0 ≤ a * b ∧ a * b ≤ 999999998000000001 := by
  refine ⟨Int.mul_nonneg ha hb, ?_⟩
  have := Int.mul_le_mul (show a ≤ 999999999 by omega) (show b ≤ 999999999 by omega) hb (by omega)
  omega

/-- The inner loop: limb i of m, up to limb j of n; the row P, the carry c. -/
def MulIn (m n lb i j : Nat) (P : List Int) (c : Int) : Prop := Limbs P ∧ 0 ≤ c ∧ c < 1000000000 ∧ ZeroFrom P (i + lb) ∧ val P + (pw (i + j) : Int) * c = (mulV m n i j : Int)
/-- The outer loop. -/
def MulOut (m n lb i : Nat) (P : List Int) : Prop := Limbs P ∧ ZeroFrom P (i + lb) ∧ val P = ((m % pw i * n : Nat) : Int)
theorem MulOut.start (m n lb L : Nat) : MulOut m n lb 0 (List.replicate L 0) := by
  refine ⟨Limbs.replicate L, fun i d _ hd => ?_, ?_⟩
  · rw [List.getElem?_replicate] at hd
    split at hd
    · exact (Option.some.inj hd).symm
    · cases hd
  · rw [val_replicate, pw_zero, Nat.mod_one, Nat.zero_mul]
    rfl
theorem MulOut.enter {m n lb i : Nat} {P : List Int} (h : MulOut m n lb i P) : MulIn m n lb i 0 P 0 := by
  refine ⟨h.1, by omega, by omega, h.2.1, ?_⟩
  rw [mulV_zero, h.2.2]
  simp
theorem ZeroFrom.set {P : List Int} {k j : Nat} {d : Int} (h : ZeroFrom P k) (hj : j < k) : ZeroFrom (P.set j d) k := by
  intro i e hi he
  rw [List.getElem?_set_ne (by omega)] at he
  exact h i e hi he
theorem ZeroFrom.next {P : List Int} {k : Nat} {d : Int} (h : ZeroFrom P k) : ZeroFrom (P.set k d) (k + 1) := by
  intro i e hi he
  rw [List.getElem?_set_ne (by omega)] at he
  exact h i e (by omega) he
theorem MulIn.step {m n lb i j : Nat} {P : List Int} {c p a b : Int} (h : MulIn m n lb i j P c) (hp : P[i + j]? = some p) (ha : a = (lim m i : Int)) (hb : b = (lim n j : Int)) (hj : j < lb) :
    MulIn m n lb i (j + 1) (P.set (i + j) ((p + a * b + c) % 1000000000)) ((p + a * b + c) / 1000000000) := by
  obtain ⟨h1, h2, h3, h4, h5⟩ := h
  obtain ⟨p0, p1⟩ := h1.get hp
  have ha1 := lim_lt m i
  have hb1 := lim_lt n j
  obtain ⟨q0, q1⟩ := mul_bound (a := a) (b := b) (by omega) (by omega) (by omega) (by omega)
  refine ⟨h1.set (by omega) (by omega), by omega, by omega, h4.set (by omega), ?_⟩
  have e1 : (p + a * b + c) % 1000000000 - p + 1000000000 * ((p + a * b + c) / 1000000000) = c + a * b := by omega
  have e2 := place (P := (pw (i + j) : Int)) e1
  rw [Int.mul_add (pw (i + j) : Int) c] at e2
  rw [val_set hp, mulV_step, ← Nat.add_assoc, cast_pw_succ, Int.natCast_add, Int.natCast_mul, Int.natCast_mul, ← h5, ← ha, ← hb]
  generalize (pw (i + j) : Int) * ((p + a * b + c) % 1000000000 - p) = X at *
  generalize 1000000000 * (pw (i + j) : Int) * ((p + a * b + c) / 1000000000) = Y at *
  omega
theorem MulIn.step' {m n lb i j : Nat} {P : List Int} {c p a b t : Int} (h : MulIn m n lb i j P c) (hp : P[i + j]? = some p) (ha : a = (lim m i : Int)) (hb : b = (lim n j : Int)) (hj : j < lb) (ht : t = p + a * b + c) :
    MulIn m n lb i (j + 1) (P.set (i + j) (t % 1000000000)) (t / 1000000000) := by
  subst ht
  exact h.step hp ha hb hj
theorem MulIn.close {m n lb i : Nat} {P : List Int} {c : Int} (h : MulIn m n lb i lb P c) (hn : n < pw lb) (hz : P[i + lb]? = some 0) : MulOut m n lb (i + 1) (P.set (i + lb) c) := by
  obtain ⟨h1, h2, h3, h4, h5⟩ := h
  refine ⟨h1.set h2 h3, ?_, ?_⟩
  · have := h4.next (d := c)
    rwa [show i + lb + 1 = i + 1 + lb by omega] at this
  · rw [val_set hz, Int.sub_zero, h5, mulV_last hn]
theorem MulOut.done {m n lb : Nat} {P : List Int} {i : Nat} (h : MulOut m n lb i P) (hm : m < pw i) : Limbs P ∧ (val P).toNat = m * n := by
  refine ⟨h.1, ?_⟩
  rw [h.2.2, Nat.mod_eq_of_lt hm, Int.toNat_natCast]
theorem lim_get {m i : Nat} (h : i < (toL m).length) : (toL m)[i]? = some (lim m i : Int) := toL_get h
theorem ZeroFrom.zero_at {P : List Int} {k i : Nat} (h : ZeroFrom P k) (hi : k ≤ i) (hl : i < P.length) : P[i]? = some 0 := by
  have h1 : P[i]? = some P[i] := List.getElem?_eq_getElem hl
  rw [h1, h i P[i] hi h1]

end Go.Proofs.Ytekppknakegadaa
