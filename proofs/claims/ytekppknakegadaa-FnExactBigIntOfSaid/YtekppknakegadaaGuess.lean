/-
  Contracts: the value of a short number; a digit of the quotient guessed. Written by an AI agent.
-/
import Derived.Test.YtekppknakegadaaMul
import Derived.Test.YtekppknakegadaaToInt
import Derived.Test.YtekppknakegadaaApp2
namespace Go.Proofs.Ytekppknakegadaa
open Go.RowKit

theorem impl_natOfUintI (z : Int) (w : World) (h0 : 0 ≤ z) (h1 : z < 18446744073709551616) :
    Calls Try.prog 68 #[.int .u64 z] w (RetOwn 3 (toL z.toNat) w) := by
  obtain ⟨m, rfl⟩ := Int.eq_ofNat_of_zero_le h0
  rw [Int.toNat_natCast]
  exact impl_natOfUint m w (by omega)


/-- A guess that serves: positive, and not too great. -/
def GuessOk (n r : Nat) (w : World) (e : Ending) (w' : World) : Prop := ∃ d : Nat, e = .returned (.int .i64 (d : Int)) ∧ 1 ≤ d ∧ d * n ≤ r ∧ w = w'
theorem guess_le {r n P : Nat} (hP : 0 < P) : (r / P) / (n / P + 1) * n ≤ r := by
  have h1 : n ≤ (n / P + 1) * P := by
    have := Nat.div_add_mod n P
    have := Nat.mod_lt n hP
    rw [Nat.add_mul, Nat.one_mul, Nat.mul_comm]
    omega
  have h2 := Nat.div_mul_le_self (r / P) (n / P + 1)
  calc (r / P) / (n / P + 1) * n ≤ (r / P) / (n / P + 1) * ((n / P + 1) * P) := Nat.mul_le_mul_left _ h1
    _ = ((r / P) / (n / P + 1) * (n / P + 1)) * P := by rw [Nat.mul_assoc]
    _ ≤ (r / P) * P := Nat.mul_le_mul_right _ h2
    _ ≤ r := Nat.div_mul_le_self r P
theorem top_two {r k : Nat} (h : r < pw (k + 2)) : r / pw k = lim r k + lim r (k + 1) * 1000000000 := by
  have h1 : r / pw (k + 1) = r / pw k / 1000000000 := div_pw_succ r k
  have h2 : r / pw (k + 1) < 1000000000 := by
    rw [Nat.div_lt_iff_lt_mul (pw_pos _), ← pw_succ]
    exact h
  unfold lim
  rw [h1] at h2 ⊢
  generalize r / pw k = q at *
  rw [Nat.mod_eq_of_lt h2]
  omega
theorem top_one {r k : Nat} (h : r < pw (k + 1)) : r / pw k = lim r k := by
  unfold lim
  rw [Nat.mod_eq_of_lt]
  rw [Nat.div_lt_iff_lt_mul (pw_pos _), ← pw_succ]
  exact h
theorem guess_len {r n : Nat} (h1 : n ≤ r) (h2 : r < n * 1000000000) : (toL n).length ≤ (toL r).length ∧ (toL r).length ≤ (toL n).length + 1 := by
  constructor
  · rw [toL_len_le]
    exact Nat.lt_of_le_of_lt h1 lt_of_toL_len
  · rw [toL_len_le, pw_succ]
    have := lt_of_toL_len (n := n)
    omega

theorem guess_min {n r : Nat} (h1 : n ≤ r) : ∀ w, GuessOk n r w (.returned (.int .i64 1)) w := fun _ => ⟨1, rfl, Nat.le_refl _, by omega, rfl⟩
theorem guess_one {n r : Nat} {T bt : Int} (h0 : 0 < n) (h1 : n ≤ r) (hT : T = ((r / pw 0 : Nat) : Int)) (hb : bt = (n : Int)) : ∀ w, GuessOk n r w (.returned (.int .i64 (T / bt))) w := fun _ => by
  refine ⟨r / n, ?_, ?_, Nat.div_mul_le_self r n, rfl⟩
  · rw [hT, hb, pw_zero, Nat.div_one]
    rfl
  · rw [Nat.le_div_iff_mul_le h0]
    omega
theorem guess_top {n r k : Nat} {T bt : Int} (hT : T = ((r / pw k : Nat) : Int)) (hb : bt = ((n / pw k : Nat) : Int)) (hne : T / (bt + 1) ≠ 0) : ∀ w, GuessOk n r w (.returned (.int .i64 (T / (bt + 1)))) w := fun _ => by
  have he : T / (bt + 1) = (((r / pw k) / (n / pw k + 1) : Nat) : Int) := by
    rw [hT, hb]
    rfl
  refine ⟨(r / pw k) / (n / pw k + 1), ?_, ?_, guess_le (pw_pos k), rfl⟩
  · rw [he]
  · rw [he] at hne
    exact Nat.pos_of_ne_zero (by intro h; rw [h] at hne; exact hne rfl)

end Go.Proofs.Ytekppknakegadaa
