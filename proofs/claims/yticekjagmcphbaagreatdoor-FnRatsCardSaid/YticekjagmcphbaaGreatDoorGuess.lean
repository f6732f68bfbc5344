/-
  Contracts: the value of a short number; a digit of the quotient guessed. Written by an AI agent.
-/
import Derived.Test.YticekjagmcphbaaGreatDoorMul
import Derived.Test.YticekjagmcphbaaGreatDoorToInt
import Derived.Test.YticekjagmcphbaaGreatDoorApp2
namespace Go.Proofs.YticekjagmcphbaaGreatDoor
open Go.RowKit

theorem impl_natOfUintI (z : Int) (w : World) (h0 : 0 ≤ z) (h1 : z < 18446744073709551616) :
    Calls Tryz.prog 52 #[.int .u64 z] w (RetOwn 3 (toL z.toNat) w) := by
  obtain ⟨m, rfl⟩ := Int.eq_ofNat_of_zero_le h0
  rw [Int.toNat_natCast]
  exact impl_natOfUint m w (by omega)

set_option maxHeartbeats 1000000 in
theorem impl_natSmall (v : Value) (m : Nat) (w : World) (h : Sl w v (toL m)) (hm : m ≤ maxInt) :
    Calls Tryz.prog 51 #[v] w fun e w' => e = .returned (.int .i64 (m : Int)) ∧ w = w' := by
  have HM := Lib.hid hm
  clear hm
  obtain ⟨A, c, rfl, h1, h2, h3⟩ := h
  have hgx := toL_at m
  have htop := top_div (m := m)
  generalize toL m = xs at *
  have HGX := Lib.hid hgx
  have HT := Lib.hid htop
  clear hgx htop
  have hm : xs.length ≤ 9223372036854775807 := by unfold maxLen at h2; omega
  go_enter Tryz.func51, Tryz.ntmps51
  go_wp2
  go_loop [3, 4] (fun q i => ∃ x y : Int, i = .int .i64 x ∧ q = .int .i64 y ∧ -1 ≤ x ∧ x < xs.length ∧ y = ((m / pw (x + 1).toNat : Nat) : Int)) (fun _ i => (intOf i + 1).toNat)
  case atStart => exact ⟨_, 0, rfl, rfl, by omega, by omega, by rw [show ((xs.length : Int) - 1 + 1).toNat = xs.length by omega, HT.out]; rfl⟩
  case round =>
    obtain ⟨x, y, rfl, rfl, hx1, hx2, hy⟩ := hrel
    by_cases hx : 0 ≤ x
    · obtain ⟨j, rfl⟩ := Int.eq_ofNat_of_zero_le hx
      rw [show ((j : Int) + 1).toNat = j + 1 by omega] at hy
      have hlt : j < xs.length := by omega
      obtain ⟨b, off, rfl, hcl⟩ := h3 (by omega)
      obtain ⟨d, hd⟩ : ∃ d : Int, d = ((m / pw j % 1000000000 : Nat) : Int) := ⟨_, rfl⟩
      have hcell := hcl j d (by rw [HGX.out j hlt, hd])
      have hst := step_val hd hy
      have hle := div_le (p := pw j) HM.out
      rw [← hst] at hle
      have hy0 : 0 ≤ y := by rw [hy]; exact Int.natCast_nonneg _
      have hd0 : 0 ≤ d := by rw [hd]; exact Int.natCast_nonneg _
      have HST := Lib.hid hst
      clear hst hd hy hcl h3
      go_wp2
      go_round
      case rel => exact ⟨(j : Int) - 1, y * 1000000000 + d, rfl, rfl, by omega, by omega, by rw [show ((j : Int) - 1 + 1).toNat = j by omega]; exact HST.out⟩
      case measure => simp [intOf]
    · have HZ := Lib.hid (show y = (m : Int) by rw [hy, show (x + 1).toNat = 0 by omega, pw_zero, Nat.div_one])
      clear hy
      go_wp2
      go_ret
      exact ⟨ret_int HZ.out, rfl⟩

/-- A guess that serves: positive, and not too great. -/
def GuessOk (n r : Nat) (w : World) (e : Ending) (w' : World) : Prop := ∃ d : Nat, e = .returned (.int .i64 (d : Int)) ∧ 1 ≤ d ∧ d * n ≤ r ∧ w = w'
theorem guess_le {r n P : Nat} (hP : 0 < P) : (r / P) / (n / P + 1) * n ≤ r := by
  have h1 : n ≤ (n / P + 1) * P := by
    have := Nat.div_add_mod n P
    have := Nat.mod_lt n hP
    rw [Nat.add_mul, Nat.one_mul, Nat.mul_comm]
    omega
  have h2 := Nat.div_mul_le_self (r / P) (n / P + 1)
  calc (r / P) / (n / P + 1) * n ≤ (r / P) / (n / P + 1) * ((n / P + 1) * P) := Nat.mul_le_mul_left _ h1
    _ = ((r / P) / (n / P + 1) * (n / P + 1)) * P := by rw [Nat.mul_assoc]
    _ ≤ (r / P) * P := Nat.mul_le_mul_right _ h2
    _ ≤ r := Nat.div_mul_le_self r P
theorem top_two {r k : Nat} (h : r < pw (k + 2)) : r / pw k = lim r k + lim r (k + 1) * 1000000000 := by
  have h1 : r / pw (k + 1) = r / pw k / 1000000000 := div_pw_succ r k
  have h2 : r / pw (k + 1) < 1000000000 := by
    rw [Nat.div_lt_iff_lt_mul (pw_pos _), ← pw_succ]
    exact h
  unfold lim
  rw [h1] at h2 ⊢
  generalize r / pw k = q at *
  rw [Nat.mod_eq_of_lt h2]
  omega
theorem top_one {r k : Nat} (h : r < pw (k + 1)) : r / pw k = lim r k := by
  unfold lim
  rw [Nat.mod_eq_of_lt]
  rw [Nat.div_lt_iff_lt_mul (pw_pos _), ← pw_succ]
  exact h
theorem guess_len {r n : Nat} (h1 : n ≤ r) (h2 : r < n * 1000000000) : (toL n).length ≤ (toL r).length ∧ (toL r).length ≤ (toL n).length + 1 := by
  constructor
  · rw [toL_len_le]
    exact Nat.lt_of_le_of_lt h1 lt_of_toL_len
  · rw [toL_len_le, pw_succ]
    have := lt_of_toL_len (n := n)
    omega

theorem guess_min {n r : Nat} (h1 : n ≤ r) : ∀ w, GuessOk n r w (.returned (.int .i64 1)) w := fun _ => ⟨1, rfl, Nat.le_refl _, by omega, rfl⟩
theorem guess_one {n r : Nat} {T bt : Int} (h0 : 0 < n) (h1 : n ≤ r) (hT : T = ((r / pw 0 : Nat) : Int)) (hb : bt = (n : Int)) : ∀ w, GuessOk n r w (.returned (.int .i64 (T / bt))) w := fun _ => by
  refine ⟨r / n, ?_, ?_, Nat.div_mul_le_self r n, rfl⟩
  · rw [hT, hb, pw_zero, Nat.div_one]
    rfl
  · rw [Nat.le_div_iff_mul_le h0]
    omega
theorem guess_top {n r k : Nat} {T bt : Int} (hT : T = ((r / pw k : Nat) : Int)) (hb : bt = ((n / pw k : Nat) : Int)) (hne : T / (bt + 1) ≠ 0) : ∀ w, GuessOk n r w (.returned (.int .i64 (T / (bt + 1)))) w := fun _ => by
  have he : T / (bt + 1) = (((r / pw k) / (n / pw k + 1) : Nat) : Int) := by
    rw [hT, hb]
    rfl
  refine ⟨(r / pw k) / (n / pw k + 1), ?_, ?_, guess_le (pw_pos k), rfl⟩
  · rw [he]
  · rw [he] at hne
    exact Nat.pos_of_ne_zero (by intro h; rw [h] at hne; exact hne rfl)

set_option maxHeartbeats 2000000 in
theorem impl_natGuess (u v : Value) (r n : Nat) (w : World) (hu : Sl w u (toL r)) (hv : Sl w v (toL n)) (h0 : 0 < n) (h1 : n ≤ r) (h2 : r < n * 1000000000) :
    Calls Tryz.prog 66 #[u, v] w (GuessOk n r w) := by
  obtain ⟨A, c, rfl, a1, a2, a3⟩ := hu
  obtain ⟨B, c', rfl, k1, k2, k3⟩ := hv
  obtain ⟨hl1, hl2⟩ := guess_len h1 h2
  have hn0 : 0 < (toL n).length := by
    rw [toL_pos h0]
    simp
  have hrl := lt_of_toL_len (n := r)
  have hnl := lt_of_toL_len (n := n)
  have hgx := @lim_get r
  have hgy := @lim_get n
  have hx2 : (toL r).length ≤ 9223372036854775807 := by unfold maxLen at a2; omega
  have hy2 : (toL n).length ≤ 9223372036854775807 := by unfold maxLen at k2; omega
  generalize toL r = xs at *
  generalize toL n = ys at *
  obtain ⟨k, hk⟩ : ∃ k, ys.length = k + 1 := ⟨ys.length - 1, by omega⟩
  obtain ⟨b, off, rfl, hc⟩ := a3 (by omega)
  obtain ⟨b', off', rfl, hc'⟩ := k3 (by omega)
  clear a3 k3
  obtain ⟨t0, ht0⟩ : ∃ d : Int, d = (lim r k : Int) := ⟨_, rfl⟩
  obtain ⟨bt, hbt⟩ : ∃ d : Int, d = (lim n k : Int) := ⟨_, rfl⟩
  have c0 := hc k t0 (by rw [hgx (by omega), ht0])
  have c1 := hc' k bt (by rw [hgy (by omega), hbt])
  have t00 : 0 ≤ t0 := by omega
  have t01 : t0 < 1000000000 := by have := lim_lt r k; omega
  have bt0 : 0 ≤ bt := by omega
  have bt1 : bt < 1000000000 := by have := lim_lt n k; omega
  have hnt : (n / pw k : Nat) = lim n k := top_one (by rw [← hk]; exact hnl)
  rw [hk] at hl1 hl2 hy2 ⊢
  have HK := Lib.hid hk
  clear hk
  have hwk : ((k + 1 : Nat) : Int) - 1 = (k : Int) := by omega
  by_cases hlong : k + 1 < xs.length
  · obtain ⟨t1, ht1⟩ : ∃ d : Int, d = (lim r (k + 1) : Int) := ⟨_, rfl⟩
    have c2 := hc (k + 1) t1 (by rw [hgx (by omega), ht1])
    have t10 : 0 ≤ t1 := by omega
    have t11 : t1 < 1000000000 := by have := lim_lt r (k + 1); omega
    have hT : t0 + t1 * 1000000000 = ((r / pw k : Nat) : Int) := by rw [top_two (by rwa [show xs.length = k + 2 by omega] at hrl)]; omega
    have HT := Lib.hid hT
    clear hT ht1 hrl hnl hgx hgy hc hc'
    by_cases hk0 : k = 0
    · subst hk0
      simp only [Nat.add_zero] at c0 c1
      have hb1 : 1 ≤ bt := by rw [pw_zero, Nat.div_one] at hnt; omega
      have HR := Lib.hid (guess_one (T := t0 + t1 * 1000000000) h0 h1 HT.out (show bt = (n : Int) by rw [pw_zero, Nat.div_one] at hnt; omega))
      clear hnt ht0 hbt
      go_enter Tryz.func66, Tryz.ntmps66
      go_wp2
      go_ret
      exact HR.out w
    · have hk1 : (((k : Int) + 1) == 1) = false := by simp; omega
      have hb1 : 0 ≤ (t0 + t1 * 1000000000) / (bt + 1) := Int.ediv_nonneg (by omega) (by omega)
      by_cases hd : (t0 + t1 * 1000000000) / (bt + 1) = 0
      · have hd' : ((t0 + t1 * 1000000000) / (bt + 1) == 0) = true := by simpa using hd
        have HR := Lib.hid (guess_min h1)
        clear hnt ht0 hbt hd
        go_enter Tryz.func66, Tryz.ntmps66
        go_wp2
        go_ret
        exact HR.out w
      · have hd' : ((t0 + t1 * 1000000000) / (bt + 1) == 0) = false := by simpa using hd
        have HR := Lib.hid (guess_top (T := t0 + t1 * 1000000000) (k := k) (n := n) HT.out (show bt = ((n / pw k : Nat) : Int) by omega) (by omega))
        clear hnt ht0 hbt hd
        go_enter Tryz.func66, Tryz.ntmps66
        go_wp2
        go_ret
        exact HR.out w
  · have hT : t0 = ((r / pw k : Nat) : Int) := by rw [top_one (by rwa [show xs.length = k + 1 by omega] at hrl)]; exact ht0
    have HT := Lib.hid hT
    have hxk : xs.length = k + 1 := by omega
    have HXK := Lib.hid hxk
    clear hT hrl hnl hgx hgy hc hc' hxk
    by_cases hk0 : k = 0
    · subst hk0
      simp only [Nat.add_zero] at c0 c1
      have hb1 : 1 ≤ bt := by rw [pw_zero, Nat.div_one] at hnt; omega
      have HR := Lib.hid (guess_one (T := t0) h0 h1 HT.out (show bt = (n : Int) by rw [pw_zero, Nat.div_one] at hnt; omega))
      clear hnt ht0 hbt
      go_enter Tryz.func66, Tryz.ntmps66
      go_wp2
      go_ret
      exact HR.out w
    · have hk1 : (((k : Int) + 1) == 1) = false := by simp; omega
      have hb1 : 0 ≤ (t0) / (bt + 1) := Int.ediv_nonneg (by omega) (by omega)
      by_cases hd : (t0) / (bt + 1) = 0
      · have hd' : ((t0) / (bt + 1) == 0) = true := by simpa using hd
        have HR := Lib.hid (guess_min h1)
        clear hnt ht0 hbt hd
        go_enter Tryz.func66, Tryz.ntmps66
        go_wp2
        go_ret
        exact HR.out w
      · have hd' : ((t0) / (bt + 1) == 0) = false := by simpa using hd
        have HR := Lib.hid (guess_top (T := t0) (k := k) (n := n) HT.out (show bt = ((n / pw k : Nat) : Int) by omega) (by omega))
        clear hnt ht0 hbt hd
        go_enter Tryz.func66, Tryz.ntmps66
        go_wp2
        go_ret
        exact HR.out w
end Go.Proofs.YticekjagmcphbaaGreatDoor
